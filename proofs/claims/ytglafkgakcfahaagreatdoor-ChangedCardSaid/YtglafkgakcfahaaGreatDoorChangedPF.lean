/- Lemmas towards the statement Changed of termsearch: walks of the program's functions and plain laws on lists (TsCount, TsCountB, TsNumberB, TsSeg, TsGrow). Conditions: those that each theorem names. -/
import Derived.Test.YtglafkgakcfahaaGreatDoorChangedPE
import Derived.Deep.CutBlock
import Derived.Deep.DeepCutAuto
import Derived.Laws.OwnMore
import Derived.Laws.EntriesVeiled
import Derived.Test.YtglafkgakcfahaaGreatDoorChangedPC
/- The walk of Dict.count: the words below each state. -/
set_option linter.unusedVariables false
set_option linter.unusedSimpArgs false
set_option linter.unusedSectionVars false
namespace Go.Proofs.Ts
open Go Go.RowKit

def countFn (H : Nat) : Value := .func (.func 138) #[] #[ptrV H, ptrV (H + 2), ptrV (H + 3)]
/-- The memory while the states are counted. -/
structure Cnt (B H db : Nat) (V : Value) (D : List DS) (dn : List Bool) (w : World) : Prop where
  db_lt : db < H
  dct : w.heap[db]? = some (.cells #[V] 148 (0, 0))
  cd : w.heap[H]? = some (.cells #[ptrV db] 85 (0, 0))
  dnb : w.heap[H + 1]? = some (.cells (dn.map Value.bool).toArray 4 (0, 0))
  cn : w.heap[H + 2]? = some (.cells #[.slice (some ⟨H + 1, 0, none⟩) D.length D.length] 288 (0, 0))
  cf : w.heap[H + 3]? = some (.cells #[countFn H] 307 (0, 0))
  rows : RowsIn B w V D
  lt : ∀ g, V.ownBlock = some g → g < H ∧ g ≠ db
  elt : ∀ (i : Nat) s g, D[i]? = some s → s.v.ownBlock = some g → g < H
  len : dn.length = D.length

/-- What a count makes of the states: who is counted, has the count c. -/
structure Turned (c ρ : Nat → Nat) (r : Nat) (D : List DS) (dn : List Bool) (D' : List DS) (dn' : List Bool) : Prop where
  len : D'.length = D.length
  dlen : dn'.length = dn.length
  at_ : ∀ (i : Nat) s, D[i]? = some s → ∃ b, D'[i]? = some { s with below := b } ∧ ((b = s.below ∧ dn'[i]? = dn[i]?) ∨ (dn'[i]? = some true ∧ b = c i ∧ ρ i ≤ r))
theorem Turned.refl (c ρ : Nat → Nat) (r : Nat) (D : List DS) (dn : List Bool) : Turned c ρ r D dn D dn := ⟨rfl, rfl, fun i s h => ⟨s.below, h, .inl ⟨rfl, rfl⟩⟩⟩
theorem Turned.trans {c ρ : Nat → Nat} {r : Nat} {D1 D2 D3 : List DS} {d1 d2 d3 : List Bool} (h : Turned c ρ r D1 d1 D2 d2) (k : Turned c ρ r D2 d2 D3 d3) : Turned c ρ r D1 d1 D3 d3 := by
  refine ⟨k.len.trans h.len, k.dlen.trans h.dlen, fun i s hi => ?_⟩
  obtain ⟨b, h1, h2⟩ := h.at_ i s hi
  obtain ⟨b', k1, k2⟩ := k.at_ i _ h1
  refine ⟨b', k1, ?_⟩
  rcases k2 with ⟨e1, e2⟩ | e
  · rcases h2 with ⟨e3, e4⟩ | ⟨e3, e4, e5⟩
    · exact .inl ⟨e1.trans e3, e2.trans e4⟩
    · exact .inr ⟨e2.trans e3, e1.trans e4, e5⟩
  · exact .inr e
theorem Turned.mono {c ρ : Nat → Nat} {r r' : Nat} {D D' : List DS} {d d' : List Bool} (h : Turned c ρ r D d D' d') (hr : r ≤ r') : Turned c ρ r' D d D' d' :=
  ⟨h.len, h.dlen, fun i s hi => by
    obtain ⟨b, h1, h2 | ⟨h2, h3, h4⟩⟩ := h.at_ i s hi
    · exact ⟨b, h1, .inl h2⟩
    · exact ⟨b, h1, .inr ⟨h2, h3, Nat.le_trans h4 hr⟩⟩⟩

section
variable {B H db : Nat} {V : Value} {D : List DS} {dn : List Bool} {w : World}
theorem Cnt.size (h : Cnt B H db V D dn w) : H + 4 ≤ w.heap.size := lt_of_heap h.cf
theorem Cnt.kept {w' : World} (h : Cnt B H db V D dn w) (hk : ∀ j, j < w.heap.size → w'.heap[j]? = w.heap[j]?) : Cnt B H db V D dn w' := by
  have := h.size
  have := h.db_lt
  exact ⟨h.db_lt, (hk _ (by omega)).trans h.dct, (hk _ (by omega)).trans h.cd, (hk _ (by omega)).trans h.dnb, (hk _ (by omega)).trans h.cn, (hk _ (by omega)).trans h.cf, h.rows.kept fun k _ hl => hk k hl, h.lt, h.elt, h.len⟩
theorem Cnt.tell {k g cap b : Nat} {s : DS} (h : Cnt B H db V D dn w) (hk : D[k]? = some s) (hV : V = .slice (some ⟨g, 0, none⟩) D.length cap) : Cnt B H db V (D.set k { s with below := b }) dn (w.setCell ⟨g, k * 3 + 2, none⟩ (intV b)) := by
  have hg := h.lt g (by rw [hV]; rfl)
  have := h.db_lt
  have old : ∀ j, j ≠ g → (w.setCell ⟨g, k * 3 + 2, none⟩ (intV b)).heap[j]? = w.heap[j]? := fun j hj => Below.heap_setCell w _ _ j hj
  refine ⟨h.db_lt, (old _ hg.2.symm).trans h.dct, (old _ (by omega)).trans h.cd, (old _ (by omega)).trans h.dnb, ?_, (old _ (by omega)).trans h.cf, h.rows.tell hk hV, h.lt, fun i x b' hi hb => ?_, by simpa using h.len⟩
  · rw [List.length_set]
    exact (old _ (by omega)).trans h.cn
  · rw [List.getElem?_set] at hi
    split at hi
    · rename_i e
      subst e
      split at hi
      · cases hi; exact h.elt _ s b' hk hb
      · cases hi
    · exact h.elt i x b' hi hb
theorem Cnt.mark {k : Nat} (h : Cnt B H db V D dn w) : Cnt B H db V D (dn.set k true) (w.setCell ⟨H + 1, k, none⟩ (.bool true)) := by
  have := h.db_lt
  have old : ∀ j, j ≠ H + 1 → (w.setCell ⟨H + 1, k, none⟩ (.bool true)).heap[j]? = w.heap[j]? := fun j hj => Below.heap_setCell w _ _ j hj
  refine ⟨h.db_lt, (old _ (by omega)).trans h.dct, (old _ (by omega)).trans h.cd, ?_, (old _ (by omega)).trans h.cn, (old _ (by omega)).trans h.cf, ⟨?_, h.rows.past, fun i s hi => ?_, h.rows.epast, h.rows.apart, h.rows.apartV⟩, h.lt, h.elt, by simpa using h.len⟩
  · have := heap_setCell_same w (H + 1) k _ _ (.bool true) h.dnb
    rw [this]
    congr 2
    simp [List.map_set]
  · exact ownsRow_block h.rows.row fun j e => old j (by have := h.lt j e; omega)
  · exact ownsRow_block (h.rows.erow i s hi) fun j e => old j (by have := h.elt i s j hi e; omega)
end
/-- Whither a counted state leads is counted. -/
def Clo (ST : List DS) (dn : List Bool) : Prop := ∀ (i : Nat) s, ST[i]? = some s → dn[i]? = some true → ∀ e ∈ s.edges, dn[e.2]? = some true
theorem set_true {dn : List Bool} {k i : Nat} (h : dn[i]? = some true) : (dn.set k true)[i]? = some true := by
  have hl := (List.getElem?_eq_some_iff.1 h).1
  by_cases e : k = i
  · subst e; rw [List.getElem?_set_self hl]
  · rw [List.getElem?_set_ne e]; exact h
/-- While a state's edges are followed: j of them are. -/
structure Rnd (ST : List DS) (B H db : Nat) (V : Value) (c ρ : Nat → Nat) (k : Nat) (s0 : DS) (D : List DS) (dn : List Bool) (w : World) (j : Nat) (D' : List DS) (dn' : List Bool) (wr : World) : Prop where
  cnt : Cnt B H db V D' dn' wr
  mod : Mod (fun j => V.ownBlock = some j ∨ j = H + 1) w wr
  len : D'.length = D.length
  dlen : dn'.length = dn.length
  own : D'[k]? = some { s0 with below := (if s0.final then 1 else 0) + ((s0.edges.take j).map fun e => c e.2).sum }
  odn : dn'[k]? = some false
  clo : Clo ST dn'
  took : ∀ e ∈ s0.edges.take j, dn'[e.2]? = some true
  oth : ∀ (i : Nat) s, i ≠ k → D[i]? = some s → ∃ b, D'[i]? = some { s with below := b } ∧ ((b = s.below ∧ dn'[i]? = dn[i]?) ∨ (dn'[i]? = some true ∧ b = c i ∧ ρ i < ρ k))

set_option maxRecDepth 100000 in
set_option maxHeartbeats 4000000 in
theorem below_any (B H db : Nat) (V : Value) (c ρ : Nat → Nat) (hc : ∀ i, c i ≤ 1000000) (ST : List DS)
    (hST : ∀ (i : Nat) s, ST[i]? = some s → s.edges.length ≤ 300 ∧ (∀ e ∈ s.edges, e.2 < ST.length ∧ ρ e.2 < ρ i) ∧ c i = (if s.final then 1 else 0) + (s.edges.map fun e => c e.2).sum) (hlen : ST.length ≤ 1000000) :
    ∀ (r k : Nat) (D : List DS) (dn : List Bool) (w : World), ρ k < r → k < ST.length → (∀ (i : Nat) s, ST[i]? = some s → ∃ b, D[i]? = some { s with below := b }) → D.length = ST.length →
    (∀ (i : Nat) s, D[i]? = some s → ρ i < r → (dn[i]? = some true → s.below = c i) ∧ (dn[i]? = some false → s.below = 0)) → Clo ST dn → Cnt B H db V D dn w →
    Calls Tryz.prog 138 #[intV k, ptrV H, ptrV (H + 2), ptrV (H + 3)] w fun e w' => e = .returned (intV (c k)) ∧ ∃ D' dn', Cnt B H db V D' dn' w' ∧ Mod (fun j => V.ownBlock = some j ∨ j = H + 1) w w' ∧
      Turned c ρ (ρ k) D dn D' dn' ∧ dn'[k]? = some true ∧ Clo ST dn' := by
  intro r
  induction r using Nat.strongRecOn with
  | _ r ih =>
    intro k D dn w hr hk hD hDl hhon hclo hcn
    have IH := Lib.hid ih
    have HD := Lib.hid hD
    have HON := Lib.hid hhon
    have HST := Lib.hid hST
    have HC := Lib.hid hc
    clear ih hD hhon hST hc
    obtain ⟨s0, hs0⟩ : ∃ s0, ST[k]? = some s0 := ⟨_, List.getElem?_eq_getElem hk⟩
    obtain ⟨b0, hDk⟩ := HD.out k s0 hs0
    obtain ⟨g, cap, hV, q0, q1, q2, qf1, qf2⟩ := hcn.rows.cells hDk
    simp only at q0 q1 q2
    obtain ⟨d, hd⟩ : ∃ d, dn[k]? = some d := ⟨_, List.getElem?_eq_getElem (by have := hcn.len; omega)⟩
    have c0 : w.cell? ⟨H, 0, none⟩ = some (.pointer (some ⟨db, 0, none⟩)) := cell_block hcn.cd
    have c1 : w.cell? ⟨db, 0, none⟩ = some (.slice (some ⟨g, 0, none⟩) D.length cap) := by rw [← hV]; exact cell_block hcn.dct
    have c2 : w.cell? ⟨H + 2, 0, none⟩ = some (.slice (some ⟨H + 1, 0, none⟩) D.length D.length) := cell_block hcn.cn
    have c3 : w.cell? ⟨H + 1, k, none⟩ = some (.bool d) := by rw [cell_block hcn.dnb]; simp [hd]
    have z1 : (0 : Int) ≤ (k : Int) ∧ (k : Int) < (D.length : Int) := by omega
    have HCN := Lib.hid hcn
    have HV := Lib.hid hV
    have hkd : k < D.length := by omega
    clear hcn hV
    cases d with
    | true =>
      have hb : b0 = c k := (HON.out k _ hDk hr).1 hd
      subst hb
      unfold intV at q2 ⊢
      unfold ptrV
      go_enter Tryz.func138, Tryz.ntmps138
      go_wp2_with fail
      go_ret
      exact ⟨rfl, D, dn, HCN.out, Mod.refl _ _, Turned.refl _ _ _ _ _, hd, hclo⟩
    | false =>
      have hb : b0 = 0 := (HON.out k _ hDk hr).2 hd
      subst hb
      unfold intV at q2 ⊢
      unfold ptrV
      obtain ⟨hel, hee, hcs⟩ := HST.out k s0 hs0
      have HEE := Lib.hid hee
      have HCS := Lib.hid hcs
      clear hee hcs
      have srow := HCN.out.rows.erow k _ hDk
      simp only at srow
      obtain ⟨a5, cap5, hv5⟩ := ownsRow_form srow
      rw [hv5] at q1
      have HV5 := Lib.hid hv5
      clear srow hv5
      go_enter Tryz.func138, Tryz.ntmps138
      go_upto_if 23 with (fail)
      go_cut [] (fun wy => ∃ D1, Rnd ST B H db V c ρ k s0 D dn w 0 D1 dn wy)
      case first =>
        cases hf : s0.final with
        | true =>
          rw [hf] at q0
          have h1 := HCN.out.tell (b := 1) hDk HV.out
          go_wp2_with fail
          go_meet
          refine ⟨_, h1, Mod.setCell _ _ _ fun _ => .inl (by rw [HV.out]; rfl), by simp, rfl, ?_, hd, hclo, (by simp), fun i s hne hi => ⟨s.below, ?_, .inl ⟨rfl, rfl⟩⟩⟩
          · rw [List.getElem?_set_self hkd, hf]
            rfl
          · rw [List.getElem?_set_ne (Ne.symm hne)]; exact hi
        | false =>
          rw [hf] at q0
          go_wp2_with fail
          go_meet
          exact ⟨D, HCN.out, Mod.refl _ _, rfl, rfl, by rw [hDk, hf]; rfl, hd, hclo, (by simp), fun i s _ hi => ⟨s.below, hi, .inl ⟨rfl, rfl⟩⟩⟩
      case rest =>
        obtain ⟨D1, hR1⟩ := hcut
        have HR1 := Lib.hid hR1
        clear hR1 q0 q1 q2 qf1 qf2 c0 c1 c2 c3
        have keepq : ∀ j D' dn' W, Rnd ST B H db V c ρ k s0 D dn w j D' dn' W → W.cell? ⟨g, k * 3 + 1, none⟩ = some (.slice a5 s0.edges.length cap5) ∧ W.cell? ⟨g, k * 3 + 2, none⟩ = some (intV ((if s0.final then 1 else 0) + ((s0.edges.take j).map fun e => c e.2).sum)) ∧ W.frozen? ⟨g, k * 3 + 2, none⟩ = false := fun j D' dn' W h => by
          obtain ⟨g', cap', e1, _, e3, e4, _, e6⟩ := h.cnt.rows.cells h.own
          have eb := congrArg Value.ownBlock (HV.out.symm.trans e1)
          simp [Value.ownBlock] at eb
          subst eb
          simp only at e3 e4
          rw [HV5.out] at e3
          exact ⟨e3, e4, e6⟩
        have KQ := Lib.hid keepq
        clear keepq
        obtain ⟨r1, _, _⟩ := KQ.out _ _ _ _ HR1.out
        go_wp2_with fail
        clear r1
        go_loopw [32] (fun i wz => ∃ (j : Nat) (D' : List DS) (dn' : List Bool), j ≤ s0.edges.length ∧ i = .int .i64 j ∧ Rnd ST B H db V c ρ k s0 D dn w j D' dn' wz) (fun i _ => s0.edges.length - (intOf i).toNat)
        case atStart => exact ⟨0, _, _, Nat.zero_le _, rfl, HR1.out⟩
        case round =>
          obtain ⟨j, D', dn', hj, rfl, hR⟩ := hrel
          have HR := Lib.hid hR
          clear hR
          by_cases hjl : j < s0.edges.length
          · obtain ⟨ch, t, hct⟩ : ∃ ch t, s0.edges[j]? = some (ch, t) := ⟨_, _, List.getElem?_eq_getElem hjl⟩
            obtain ⟨g1, cap1', e1, ek0, ek1⟩ := HR.out.cnt.rows.edgeCells HR.out.own hct
            simp only at e1
            rw [HV5.out] at e1
            simp only [Value.slice.injEq, true_and] at e1
            obtain ⟨rfl, rfl⟩ := e1
            unfold intV at ek1
            have hee := HEE.out (ch, t) (List.mem_of_getElem? hct)
            have hszr := HR.out.cnt.size
            obtain ⟨_, r2, r3⟩ := KQ.out _ _ _ _ HR.out
            obtain ⟨P, hP⟩ : ∃ P, P = (if s0.final then 1 else 0) + ((s0.edges.take j).map fun e => c e.2).sum := ⟨_, rfl⟩
            rw [← hP] at r2
            unfold intV at r2
            have hPs : (if s0.final then 1 else 0) + ((s0.edges.take (j + 1)).map fun e => c e.2).sum = P + c t := by
              have htk : s0.edges.take (j + 1) = s0.edges.take j ++ [(ch, t)] := by
                rw [List.take_succ_eq_append_getElem hjl]
                congr
                exact Option.some.inj ((List.getElem?_eq_getElem hjl).symm.trans hct)
              rw [htk, hP]
              simp
              omega
            have hPb : P + c t ≤ 1000000 := by
              have h1 := HC.out k
              rw [HCS.out] at h1
              have h2 : ((s0.edges.take (j + 1)).map fun e => c e.2).sum ≤ (s0.edges.map fun e => c e.2).sum := by
                conv => rhs; rw [← List.take_append_drop (j + 1) s0.edges]
                rw [List.map_append, List.sum_append]
                omega
              omega
            have cf : wr.cell? ⟨H + 3, 0, none⟩ = some (.func (.func 138) #[] #[.pointer (some ⟨H, 0, none⟩), .pointer (some ⟨H + 2, 0, none⟩), .pointer (some ⟨H + 3, 0, none⟩)]) := cell_block HR.out.cnt.cf
            have hgH := HR.out.cnt.lt g (by rw [HV.out]; rfl)
            have HP := Lib.hid hP
            have HPS := Lib.hid hPs
            clear hP hPs
            go_wp2_with fail
            have x0 : (wr.alloc (.cells #[.int .u8 ch.toNat, .int .i64 t] 153)).heap[wr.heap.size]? = some (.cells #[.int .u8 ch.toNat, .int .i64 t] 153 (0, 0)) := heap_alloc_new _ _
            have x1 : (wr.alloc (.cells #[.int .u8 ch.toNat, .int .i64 t] 153)).cell? ⟨wr.heap.size, 1, none⟩ = some (.int .i64 t) := cell_block x0
            have x2 : (wr.alloc (.cells #[.int .u8 ch.toNat, .int .i64 t] 153)).cell? ⟨H + 3, 0, none⟩ = some (.func (.func 138) #[] #[.pointer (some ⟨H, 0, none⟩), .pointer (some ⟨H + 2, 0, none⟩), .pointer (some ⟨H + 3, 0, none⟩)]) :=
              (World.cell?_alloc_lt _ _ _ (by show H + 3 < _; omega)).trans cf
            have x3 : (wr.alloc (.cells #[.int .u8 ch.toNat, .int .i64 t] 153)).cell? ⟨g, k * 3 + 2, none⟩ = some (.int .i64 P) := (World.cell?_alloc_lt _ _ _ (by show g < _; omega)).trans r2
            have hC3 : Cnt B H db V D' dn' (wr.alloc (.cells #[.int .u8 ch.toNat, .int .i64 t] 153)) := HR.out.cnt.kept fun j hj => Below.heap_alloc wr _ j hj
            have HC3 := Lib.hid hC3
            have hM3 : Mod (fun j => V.ownBlock = some j ∨ j = H + 1) w (wr.alloc (.cells #[.int .u8 ch.toNat, .int .i64 t] 153)) := HR.out.mod.trans (Mod.alloc _ _ _)
            have HM3 := Lib.hid hM3
            clear hC3 hM3 cf r2 r3 ek0 ek1 x0
            generalize (wr.alloc (.cells #[.int .u8 ch.toNat, .int .i64 t] 153)) = W3 at *
            refine wp_region_ordX [(0, false), (1, false), (2, false), (3, false), (4, false), (5, false), (6, false), (7, false), (8, true), (9, true), (10, true), (11, true), (12, true), (13, true)] 13
              (fun w' => w'.cell? ⟨wr.heap.size, 1, none⟩ = some (.int .i64 t) ∧ w'.cell? ⟨H + 3, 0, none⟩ = some (.func (.func 138) #[] #[.pointer (some ⟨H, 0, none⟩), .pointer (some ⟨H + 2, 0, none⟩), .pointer (some ⟨H + 3, 0, none⟩)]) ∧
                w'.cell? ⟨g, k * 3 + 2, none⟩ = some (.int .i64 P)) (by kernel_rfl) (by kernel_rfl) ?_ ?_
            · exact ⟨x1, x2, x3⟩
            iterate 8 (
              refine wpOrd_quiet ?_ rfl rfl (fun w' hS => ?_) ?_
              rotate_left
              · obtain ⟨f0, f1, f2⟩ := hS
                go_simp
                first | rfl | done
              simp only [put_lit, List.set_cons_succ, List.set_cons_zero])
            refine wpOrd_loud rfl rfl (by decide) (fun K hK => ?_)
            go_simp
            have hown := HR.out.own
            have hin1 : ∀ (i : Nat) s, ST[i]? = some s → ∃ b, D'[i]? = some { s with below := b } := fun i s hi => by
              by_cases hik : i = k
              · subst hik
                rw [hs0] at hi
                cases hi
                exact ⟨_, hown⟩
              · obtain ⟨b1, h1⟩ := HD.out i s hi
                obtain ⟨b2, h2, _⟩ := HR.out.oth i _ hik h1
                exact ⟨b2, h2⟩
            have hin2 : ∀ (i : Nat) s, D'[i]? = some s → ρ i < ρ k → (dn'[i]? = some true → s.below = c i) ∧ (dn'[i]? = some false → s.below = 0) := fun i s hi hri => by
              have hik : i ≠ k := fun e => by rw [e] at hri; exact Nat.lt_irrefl _ hri
              have hil : i < D.length := by have := (List.getElem?_eq_some_iff.1 hi).1; have := HR.out.len; omega
              have hDi := List.getElem?_eq_getElem hil
              obtain ⟨b, h1, h2⟩ := HR.out.oth i _ hik hDi
              rw [hi] at h1
              cases h1
              obtain ⟨o1, o2⟩ := HON.out i _ hDi (Nat.lt_trans hri hr)
              rcases h2 with ⟨h2, h3⟩ | ⟨h2, h3, _⟩
              · rw [h3, h2]; exact ⟨o1, o2⟩
              · rw [h2]
                exact ⟨fun _ => h3, fun e => by cases e⟩
            have HI1 := Lib.hid hin1
            have HI2 := Lib.hid hin2
            clear hin1 hin2
            refine (IH.out (ρ k) hr t D' dn' W3.drew hee.2 hee.1 HI1.out (HR.out.len.trans hDl) HI2.out HR.out.clo (HC3.out.kept fun _ _ => rfl)).mono ?_
            rintro e w2 ⟨rfl, D2, dn2, hcn2, hmod2, htu, hk2, hclo2⟩
            obtain ⟨b2, hD2, hb2⟩ := htu.at_ k _ hown
            have hb2' : b2 = P ∧ dn2[k]? = some false := by
              rcases hb2 with ⟨h1, h2⟩ | ⟨_, _, h3⟩
              · exact ⟨h1.trans HP.out.symm, h2.trans HR.out.odn⟩
              · exact absurd (Nat.lt_of_le_of_lt h3 hee.2) (Nat.lt_irrefl _)
            obtain ⟨rfl, hdn2⟩ := hb2'
            clear hb2
            obtain ⟨g', cap', e1, _, _, y2, _, y3⟩ := hcn2.rows.cells hD2
            have eb := congrArg Value.ownBlock (HV.out.symm.trans e1)
            simp [Value.ownBlock] at eb
            subst eb
            simp only at y2
            unfold intV at y2
            have hX3 := lt_of_cell x1
            have y1 : w2.cell? ⟨wr.heap.size, 1, none⟩ = some (.int .i64 t) := by
              refine (hmod2.cell (p := ⟨wr.heap.size, 1, none⟩) hX3 ?_).trans x1
              rintro (e | e)
              · have := (HR.out.cnt.lt wr.heap.size e).1; omega
              · have e' : wr.heap.size = H + 1 := e
                omega
            have y4 : w2.cell? ⟨H + 3, 0, none⟩ = some (.func (.func 138) #[] #[.pointer (some ⟨H, 0, none⟩), .pointer (some ⟨H + 2, 0, none⟩), .pointer (some ⟨H + 3, 0, none⟩)]) := cell_block hcn2.cf
            have HCN2 := Lib.hid hcn2
            have HMOD2 := Lib.hid hmod2
            have HTU := Lib.hid htu
            have HD2 := Lib.hid hD2
            clear hcn2 hmod2 htu hD2 x1 x2 x3 e1 hown
            refine hK _ _ ⟨y1, y4, y2⟩ ?_
            clear hK K
            unfold intV
            refine wpOrd_loud rfl rfl (by decide) (fun K hK => ?_)
            go_simp
            have hw1 : IntKind.i64.wrap ((b2 : Int) + (c t : Int)) = ((b2 + c t : Nat) : Int) := by rw [IntWalk.i64_in _ (by omega)]; omega
            try rw [hw1]
            refine hK _ _ ⟨y1, y4, y2⟩ ?_
            clear hK K
            refine wpOrd_loud rfl rfl (by decide) (fun K hK => ?_)
            go_simp
            refine hK _ _ ⟨y1, y4, y2⟩ ?_
            clear hK K
            refine wpOrd_loud rfl rfl (by decide) (fun K hK => ?_)
            go_simp
            refine hK _ _ ⟨y1, y4, y2⟩ ?_
            clear hK K
            refine wpOrd_loud rfl rfl (by decide) (fun K hK => ?_)
            go_simp
            refine hK _ _ ⟨y1, y4, y2⟩ ?_
            clear hK K
            refine wpOrd_last rfl rfl (fun K hK => ?_)
            go_simp
            refine hK _ _ ?_
            clear hK K
            go_wp2_with fail
            have hlen2 : D2.length = D.length := HTU.out.len.trans HR.out.len
            have hk2l : k < D2.length := by omega
            have hct2 := HCN2.out.tell (b := b2 + c t) HD2.out (by rw [hlen2]; exact HV.out)
            have hmm : Mod (fun j => V.ownBlock = some j ∨ j = H + 1) w W3.drew := HM3.out.trans (Mod.same (Same.drew W3))
            refine ⟨⟨j + 1, _, dn2, by omega, by go_num, hct2, (hmm.trans HMOD2.out).trans (Mod.setCell _ _ _ fun _ => .inl (by rw [HV.out]; rfl)), by simpa using hlen2, HTU.out.dlen.trans HR.out.dlen, ?_, hdn2, hclo2, fun e he => ?_, fun i s hne hi => ?_⟩, by simp [intOf]; omega⟩
            · rw [List.getElem?_set_self hk2l, HPS.out]
            · have htk : s0.edges.take (j + 1) = s0.edges.take j ++ [(ch, t)] := by
                rw [List.take_succ_eq_append_getElem hjl]
                congr
                exact Option.some.inj ((List.getElem?_eq_getElem hjl).symm.trans hct)
              rw [htk] at he
              rcases List.mem_append.1 he with he | he
              · have hel2 := (HEE.out e (List.mem_of_mem_take he)).1
                obtain ⟨x2, e3, e4⟩ := HTU.out.at_ e.2 _ (List.getElem?_eq_getElem (by have := HR.out.len; omega))
                rcases e4 with ⟨_, e6⟩ | ⟨e5, _⟩
                · exact e6.trans (HR.out.took e he)
                · exact e5
              · simp at he
                subst he
                exact hk2
            · rw [List.getElem?_set_ne (Ne.symm hne)]
              obtain ⟨x1, e1, e2⟩ := HR.out.oth i s hne hi
              obtain ⟨x2, e3, e4⟩ := HTU.out.at_ i _ e1
              refine ⟨x2, e3, ?_⟩
              rcases e4 with ⟨e5, e6⟩ | ⟨e5, e6, e7⟩
              · rcases e2 with ⟨e7, e8⟩ | ⟨e7, e8, e9⟩
                · exact .inl ⟨e5.trans e7, e6.trans e8⟩
                · exact .inr ⟨e6.trans e7, e5.trans e8, e9⟩
              · exact .inr ⟨e5, e6, Nat.lt_of_le_of_lt e7 hee.2⟩
          · obtain rfl : j = s0.edges.length := by omega
            obtain ⟨_, r2, r3⟩ := KQ.out _ _ _ _ HR.out
            rw [List.take_length, ← HCS.out] at r2
            unfold intV at r2
            have cn : wr.cell? ⟨H + 2, 0, none⟩ = some (.slice (some ⟨H + 1, 0, none⟩) D'.length D'.length) := cell_block HR.out.cnt.cn
            have fr : wr.frozen? ⟨H + 1, k, none⟩ = false := free_block HR.out.cnt.dnb
            have cd : wr.cell? ⟨H + 1, k, none⟩ = some (.bool false) := by rw [cell_block HR.out.cnt.dnb]; simp [HR.out.odn]
            have hgH := HR.out.cnt.lt g (by rw [HV.out]; rfl)
            have hkD' : k < D'.length := by have := HR.out.len; omega
            have hkd' : k < dn'.length := by have := HR.out.cnt.len; omega
            have z2 : (0 : Int) ≤ (k : Int) ∧ (k : Int) < (D'.length : Int) := by omega
            go_wp2_with fail
            go_ret
            have hcl' : Clo ST (dn'.set k true) := fun i s hi hdi e he => by
              by_cases hik : i = k
              · subst hik
                rw [hs0] at hi
                cases hi
                exact set_true (HR.out.took e (by rw [List.take_length]; exact he))
              · rw [List.getElem?_set_ne (Ne.symm hik)] at hdi
                exact set_true (HR.out.clo i s hi hdi e he)
            refine ⟨rfl, D', dn'.set k true, HR.out.cnt.mark, HR.out.mod.trans (Mod.setCell _ _ _ fun _ => .inr rfl), ⟨HR.out.len, by simpa using HR.out.dlen, fun i s hi => ?_⟩, by rw [List.getElem?_set_self hkd'], hcl'⟩
            by_cases hik : i = k
            · subst hik
              rw [hDk] at hi
              cases hi
              refine ⟨c i, ?_, .inr ⟨by rw [List.getElem?_set_self hkd'], rfl, Nat.le_refl _⟩⟩
              have := HR.out.own
              rw [List.take_length, ← HCS.out] at this
              exact this
            · obtain ⟨b, h1, h2⟩ := HR.out.oth i s hik hi
              refine ⟨b, h1, ?_⟩
              rw [List.getElem?_set_ne (Ne.symm hik)]
              rcases h2 with h2 | ⟨h2, h3, h4⟩
              · exact .inl h2
              · exact .inr ⟨h2, h3, Nat.le_of_lt h4⟩
end Go.Proofs.Ts
/- The walk of Dict.count itself. -/
set_option linter.unusedVariables false
set_option linter.unusedSimpArgs false
set_option linter.unusedSectionVars false
namespace Go.Proofs.Ts
open Go Go.RowKit

theorem Tryz.info4 : (Tryz.prog.info? 4).map (fun i => (i.zero, i.size, i.bytes)) = some (some (.bool false), 1, 1) := by kernel_rfl

theorem made_false (n : Nat) : madeCells #[.bool false] n = ((List.replicate n false).map Value.bool).toArray := by
  apply Array.ext'
  rw [toList_madeCells_one]
  simp
def cntStart (w : World) (db n : Nat) : World :=
  (((w.alloc (.cells #[ptrV db] 85)).alloc (.cells (madeCells #[.bool false] n) 4)).alloc (.cells #[.slice (some ⟨w.heap.size + 1, 0, none⟩) n n] 288)).alloc (.cells #[countFn w.heap.size] 307)
theorem cntStart_old (w : World) (db n j : Nat) (h : j < w.heap.size) : (cntStart w db n).heap[j]? = w.heap[j]? := by
  unfold cntStart
  rw [Below.heap_alloc _ _ _ (by simp; omega), Below.heap_alloc _ _ _ (by simp; omega), Below.heap_alloc _ _ _ (by simp; omega), Below.heap_alloc _ _ _ h]
theorem Cnt.start {B db : Nat} {V : Value} {D : List DS} {w : World} (hdct : w.heap[db]? = some (.cells #[V] 148 (0, 0))) (hrows : RowsIn B w V D) (hVdb : V.ownBlock ≠ some db) :
    Cnt B w.heap.size db V D (List.replicate D.length false) (cntStart w db D.length) := by
  have hdlt := lt_of_heap hdct
  have old := cntStart_old w db D.length
  refine ⟨hdlt, (old _ hdlt).trans hdct, ?_, ?_, ?_, ?_, hrows.kept fun k _ hk => old k hk, fun g hg => ⟨(hrows.row.lt g hg).2, fun e => hVdb (e ▸ hg)⟩, fun i s g hi hg => ((hrows.erow i s hi).lt g hg).2, by simp⟩
  · unfold cntStart
    rw [Below.heap_alloc _ _ _ (by simp <;> omega), Below.heap_alloc _ _ _ (by simp <;> omega), Below.heap_alloc _ _ _ (by simp <;> omega)]
    exact heap_alloc_new _ _
  · unfold cntStart
    rw [Below.heap_alloc _ _ _ (by simp <;> omega), Below.heap_alloc _ _ _ (by simp <;> omega), ← made_false]
    have := heap_alloc_new (w.alloc (.cells #[ptrV db] 85)) (.cells (madeCells #[.bool false] D.length) 4)
    simpa using this
  · unfold cntStart
    rw [Below.heap_alloc _ _ _ (by simp)]
    have := heap_alloc_new ((w.alloc (.cells #[ptrV db] 85)).alloc (.cells (madeCells #[.bool false] D.length) 4)) (.cells #[.slice (some ⟨w.heap.size + 1, 0, none⟩) D.length D.length] 288)
    simpa using this
  · unfold cntStart
    have := heap_alloc_new (((w.alloc (.cells #[ptrV db] 85)).alloc (.cells (madeCells #[.bool false] D.length) 4)).alloc (.cells #[.slice (some ⟨w.heap.size + 1, 0, none⟩) D.length D.length] 288)) (.cells #[countFn w.heap.size] 307)
    simpa using this

set_option maxRecDepth 100000 in
set_option maxHeartbeats 2000000 in
theorem count_any (B db : Nat) (V : Value) (D : List DS) (w : World) (hdct : w.heap[db]? = some (.cells #[V] 148 (0, 0))) (hrows : RowsIn B w V D) (hVdb : V.ownBlock ≠ some db) (h0 : 0 < D.length) (hlen : D.length ≤ 1000000)
    (hz : ∀ (i : Nat) s, D[i]? = some s → s.below = 0) (c ρ : Nat → Nat) (hc : ∀ i, c i ≤ 1000000)
    (hST : ∀ (i : Nat) s, D[i]? = some s → s.edges.length ≤ 300 ∧ (∀ e ∈ s.edges, e.2 < D.length ∧ ρ e.2 < ρ i) ∧ c i = (if s.final then 1 else 0) + (s.edges.map fun e => c e.2).sum) :
    Calls Tryz.prog 99 #[ptrV db] w fun e w' => e = .returned (.tuple #[]) ∧ ∃ D' dn', w'.heap[db]? = some (.cells #[V] 148 (0, 0)) ∧ RowsIn B w' V D' ∧ Mod (fun j => V.ownBlock = some j) w w' ∧
      Turned c ρ (ρ 0) D (List.replicate D.length false) D' dn' ∧ dn'[0]? = some true ∧ Clo D dn' := by
  have hdlt := lt_of_heap hdct
  obtain ⟨m, hm⟩ : ∃ m, D.length = m + 1 := ⟨D.length - 1, by omega⟩
  obtain ⟨g, cap, hV⟩ : ∃ g cap, V = .slice (some ⟨g, 0, none⟩) D.length cap := by
    have hr := hrows.row
    rw [hm] at hr
    obtain ⟨g, cap, e⟩ := ownsRow_head hr
    exact ⟨g, cap, by rw [hm]; exact e⟩
  have hVl : ∀ k, V.ownBlock = some k → k < w.heap.size := fun k e => (hrows.row.lt k e).2
  obtain ⟨i0, hi, hz0, hz1, hz2⟩ := info_parts Tryz.info4
  have hmk : ∀ W : World, (Instr.makeSlice 288 (.int .i64 D.length) (.int .i64 D.length)).run Tryz.prog W = .ok (.slice (some ⟨W.heap.size, 0, none⟩) D.length D.length) (W.alloc (.cells (madeCells #[.bool false] D.length) 4)) := fun W => by
    have := run_make (P := Tryz.prog) W 288 4 i0 (.bool false) Tryz.underlying288 hi hz0 .i64 .i64 D.length D.length (by omega) (Int.le_refl _) (by rw [hz2]; omega) (by omega)
    rw [hz1] at this
    simpa [Value.cells] using this
  have hmf : ∀ (fn : Fn) (first cap : Array Value) (w : World), (Instr.makeFunc fn first cap).run Tryz.prog w = .ok (.func fn first cap) w := fun _ _ _ _ => rfl
  have d0 : w.cell? ⟨db, 0, none⟩ = some (.slice (some ⟨g, 0, none⟩) D.length cap) := by rw [← hV]; exact cell_block hdct
  have HZ := Lib.hid hz
  have HC := Lib.hid hc
  have HS := Lib.hid hST
  have HV := Lib.hid hV
  have HM := Lib.hid hm
  clear hi hz hc hST hV hm hz0 hz1 hz2
  unfold ptrV
  go_enter Tryz.func99, Tryz.ntmps99
  go_wp2_with fail
  have hst := Cnt.start hdct hrows hVdb
  refine (below_any B w.heap.size db V c ρ HC.out D HS.out hlen (ρ 0 + 1) 0 D (List.replicate D.length false) (cntStart w db D.length) (by omega) h0 (fun i s hi => ⟨s.below, hi⟩) rfl
    (fun i s hi _ => ⟨fun e => (by rw [List.getElem?_replicate] at e; split at e <;> cases e), fun _ => HZ.out i s hi⟩) (fun i s hi e => (by rw [List.getElem?_replicate] at e; split at e <;> cases e)) hst).mono ?_
  rintro e w2 ⟨rfl, D', dn', hcn, hmod, htu, h0', hclo⟩
  go_wp2_with fail
  refine bodyPost_end (results_none rfl _ _ _) rfl ?_
  refine ⟨rfl, D', dn', hcn.dct, hcn.rows, ⟨hmod.os, hmod.tape, hmod.output, Nat.le_trans (by unfold cntStart; simp; omega) hmod.size, fun j hj hn => (hmod.block j (by unfold cntStart; simp; omega) ?_).trans (cntStart_old w db D.length j hj)⟩, htu, h0', hclo⟩
  rintro (e | e)
  · exact hn e
  · omega
end Go.Proofs.Ts
/- The walk of dict.number itself: the dictionary that it hands back, and what it means. -/
set_option linter.unusedVariables false
set_option linter.unusedSimpArgs false
set_option linter.unusedSectionVars false
namespace Go.Proofs.Ts
open Go Go.RowKit

/-- A dictionary in memory: its reached states R, each with its words. -/
structure DictIs (w : World) (db : Nat) (R : Nat → Prop) (Λ : Nat → List Word) (ρ : Nat → Nat) (D : List DS) : Prop where
  mem : ∃ V, w.heap[db]? = some (.cells #[V] 148 (0, 0)) ∧ RowsIn 0 w V D
  root : R 0 ∧ ρ 0 ≤ 1000000
  state : ∀ i, R i → ∃ s, D[i]? = some s ∧ Asc s.edges ∧ s.below = (Λ i).length ∧ Λ i = wordsAt s.final s.edges Λ ∧ ∀ e ∈ s.edges, R e.2 ∧ ρ e.2 < ρ i

def numStart (w : World) : World :=
  ((((w.alloc (.cells #[.slice none 0 0] 148)).alloc (.cells #[ptrV w.heap.size] 85)).alloc (.map #[] 0)).alloc (.cells #[.map (some (w.heap.size + 2))] 186)).alloc (.cells #[meetFn w.heap.size] 254)
theorem numStart_old (w : World) (j : Nat) (h : j < w.heap.size) : (numStart w).heap[j]? = w.heap[j]? := by
  unfold numStart
  rw [Below.heap_alloc _ _ _ (by simp; omega), Below.heap_alloc _ _ _ (by simp; omega), Below.heap_alloc _ _ _ (by simp; omega), Below.heap_alloc _ _ _ (by simp; omega), Below.heap_alloc _ _ _ h]
theorem numStart_below (w : World) : Below w.heap.size w (numStart w) := ⟨rfl, rfl, rfl, by unfold numStart; simp; omega, fun j hj => numStart_old w j hj⟩
theorem Meet.start (w : World) : Meet w.heap.size [] [] (.slice none 0 0) (numStart w) := by
  refine ⟨?_, ?_, ?_, ?_, ?_, RowsIn.empty _ _⟩
  · unfold numStart
    rw [Below.heap_alloc _ _ _ (by simp <;> omega), Below.heap_alloc _ _ _ (by simp <;> omega), Below.heap_alloc _ _ _ (by simp <;> omega), Below.heap_alloc _ _ _ (by simp <;> omega)]
    exact heap_alloc_new _ _
  · unfold numStart
    rw [Below.heap_alloc _ _ _ (by simp <;> omega), Below.heap_alloc _ _ _ (by simp <;> omega), Below.heap_alloc _ _ _ (by simp <;> omega)]
    have := heap_alloc_new (w.alloc (.cells #[.slice none 0 0] 148)) (.cells #[ptrV w.heap.size] 85)
    simpa using this
  · have := MapIs.made ptrV ((w.alloc (.cells #[.slice none 0 0] 148)).alloc (.cells #[ptrV w.heap.size] 85))
    have hs : ((w.alloc (.cells #[.slice none 0 0] 148)).alloc (.cells #[ptrV w.heap.size] 85)).heap.size = w.heap.size + 2 := by simp
    rw [hs] at this
    refine this.of_block ?_
    unfold numStart
    rw [Below.heap_alloc _ _ _ (by simp <;> omega), Below.heap_alloc _ _ _ (by simp <;> omega)]
  · unfold numStart
    rw [Below.heap_alloc _ _ _ (by simp <;> omega)]
    have := heap_alloc_new (((w.alloc (.cells #[.slice none 0 0] 148)).alloc (.cells #[ptrV w.heap.size] 85)).alloc (.map #[] 0)) (.cells #[.map (some (w.heap.size + 2))] 186)
    simpa using this
  · unfold numStart
    have := heap_alloc_new ((((w.alloc (.cells #[.slice none 0 0] 148)).alloc (.cells #[ptrV w.heap.size] 85)).alloc (.map #[] 0)).alloc (.cells #[.map (some (w.heap.size + 2))] 186)) (.cells #[meetFn w.heap.size] 254)
    simpa using this

def nodeOf (M : List (Nat × Nat)) (i : Nat) : Nat := match M[i]? with | some p => p.1 | none => 0
def wordsOf (M : List (Nat × Nat)) (L : Nat → List Word) (i : Nat) : Nat := match M[i]? with | some p => (L p.1).length | none => 0
theorem nodeOf_at {M : List (Nat × Nat)} {i : Nat} {p : Nat × Nat} (h : M[i]? = some p) : nodeOf M i = p.1 := by simp [nodeOf, h]
theorem wordsOf_at {M : List (Nat × Nat)} {L : Nat → List Word} {i : Nat} {p : Nat × Nat} (h : M[i]? = some p) : wordsOf M L i = (L p.1).length := by simp [wordsOf, h]
/-- What the states say when all are met. -/
theorem Met.all {G : Graph} {Good : Nat → Prop} {H root : Nat} {V V' : Value} {w w' : World} {M : List (Nat × Nat)} {D : List DS} (h : Met G Good H root [] [] V w M D V' w') (k : Nat) (s : DS) (hk : D[k]? = some s) :
    ∃ n nd, M[k]? = some (n, k) ∧ G n = some nd ∧ s.final = nd.final ∧ s.below = 0 ∧ s.edges = nd.edges.map (fun e => (e.1, (get M e.2).getD 0)) ∧ ∀ e ∈ nd.edges, M[(get M e.2).getD 0]? = some (e.2, (get M e.2).getD 0) := by
  have hcl := fun k hk => h.closed k (Nat.zero_le _) hk
  obtain ⟨n, s', nd, h1, h2, h3, h4, h5, h6, h7⟩ := hcl k (List.getElem?_eq_some_iff.1 hk).1
  rw [hk] at h2
  cases h2
  refine ⟨n, nd, h1, h3, h4, h5, h6, fun e he => ?_⟩
  obtain ⟨x, hx⟩ := Option.isSome_iff_exists.1 (h7 e he)
  rw [hx, Option.getD_some]
  obtain ⟨j, hj⟩ := List.getElem?_of_mem (get_some_mem hx)
  obtain ⟨n', s2, nd2, g1, _⟩ := hcl j (by rw [← h.len]; exact (List.getElem?_eq_some_iff.1 hj).1)
  rw [hj] at g1
  have := congrArg Prod.snd (Option.some.inj g1)
  simp only at this
  rw [this] at hj ⊢
  exact hj
theorem wordsAt_length (f : Bool) (es : List (UInt8 × Nat)) (L : Nat → List Word) : (wordsAt f es L).length = (if f then 1 else 0) + (es.map fun e => (L e.2).length).sum := by
  unfold wordsAt
  rw [List.length_append, List.length_flatMap]
  congr 1
  · split <;> rfl
  · simp
theorem wordsAt_map (f : Bool) (es : List (UInt8 × Nat)) (L Λ : Nat → List Word) (g : Nat → Nat) (h : ∀ e ∈ es, Λ (g e.2) = L e.2) : wordsAt f (es.map fun e => (e.1, g e.2)) Λ = wordsAt f es L := by
  unfold wordsAt
  rw [List.flatMap_map]
  congr 1
  rw [List.flatMap_def, List.flatMap_def]
  congr 1
  exact List.map_congr_left fun e he => by simp only; rw [h e he]

set_option maxRecDepth 100000 in
set_option maxHeartbeats 2000000 in
theorem number_any (s : St) (B bb kb ib : Nat) (w : World) (hst : StIn B bb kb ib w s) (Good : Nat → Prop) (ρ : Nat → Nat) (L : Nat → List Word)
    (hgood : ∀ n, Good n → ∃ nd, s.G n = some nd ∧ nd.edges.length ≤ 300 ∧ ∀ e ∈ nd.edges, Good e.2 ∧ ρ e.2 < ρ n) (hfew : ∀ M : List (Nat × Nat), Apart M → (∀ p ∈ M, Good p.1) → M.length ≤ 1000000)
    (hL : ∀ n nd, Good n → s.G n = some nd → Asc nd.edges ∧ L n = wordsAt nd.final nd.edges L ∧ (L n).length ≤ 1000000) (root : Nat) (hroot : Good root) (hρr : ρ root ≤ 1000000) :
    Calls Tryz.prog 84 #[ptrV root] w fun e w' => e = .returned (ptrV w.heap.size) ∧ Below w.heap.size w w' ∧ ∃ R Λ ρ' D, DictIs w' w.heap.size R Λ ρ' D ∧ Λ 0 = L root := by
  have hmm := @run_makeMap Tryz.prog
  have hmf : ∀ (fn : Fn) (first cap : Array Value) (w : World), (Instr.makeFunc fn first cap).run Tryz.prog w = .ok (.func fn first cap) w := fun _ _ _ _ => rfl
  have HG := Lib.hid hgood
  have HF := Lib.hid hfew
  have HL := Lib.hid hL
  clear hgood hfew hL
  unfold ptrV
  go_enter Tryz.func84, Tryz.ntmps84
  go_wp2_with fail
  have hms := Meet.start w
  refine (meet_any s B bb kb ib w.heap.size w hst rfl Good ρ HG.out HF.out (ρ root + 1) root [] [] (.slice none 0 0) (numStart w) (Nat.lt_succ_self _) hroot (fun p hp => by cases hp) List.nodup_nil rfl hms (numStart_below w)).mono ?_
  rintro e w2 ⟨M, D, V, rfl, hm⟩
  have hroot0 : M[0]? = some (root, 0) := at_prefix (hm.first rfl) (by simp)
  have hD0 : 0 < D.length := by rw [← hm.len]; exact (List.getElem?_eq_some_iff.1 hroot0).1
  have hDl : D.length ≤ 1000000 := by rw [← hm.len]; exact HF.out M hm.apart hm.good
  have hV5 := hm.meet.rows.past
  have c1 : w2.cell? ⟨w.heap.size + 1, 0, none⟩ = some (.pointer (some ⟨w.heap.size, 0, none⟩)) := cell_block hm.meet.cd
  have hall := hm.all
  have hms := hm.meet
  have hcb : ∀ i, wordsOf M L i ≤ 1000000 := fun i => by
    unfold wordsOf
    cases hi : M[i]? with
    | none => simp
    | some p =>
      have hp := hm.good p (List.mem_of_getElem? hi)
      obtain ⟨nd, h1, _⟩ := HG.out p.1 hp
      exact (HL.out p.1 nd hp h1).2.2
  have hsum : ∀ (i : Nat) st, D[i]? = some st → st.edges.length ≤ 300 ∧ (∀ e ∈ st.edges, e.2 < D.length ∧ ρ (nodeOf M e.2) < ρ (nodeOf M i)) ∧ wordsOf M L i = (if st.final then 1 else 0) + (st.edges.map fun e => wordsOf M L e.2).sum := fun i st hi => by
    obtain ⟨n, nd, h1, h2, h3, h4, h5, h6⟩ := hall i st hi
    have hgn := hm.good _ (List.mem_of_getElem? h1)
    obtain ⟨nd', g1, g2, g3⟩ := HG.out n hgn
    rw [h2] at g1
    cases g1
    obtain ⟨l1, l2, l3⟩ := HL.out n nd hgn h2
    refine ⟨by rw [h5]; simpa using g2, fun e he => ?_, ?_⟩
    · rw [h5] at he
      obtain ⟨e0, he0, rfl⟩ := List.mem_map.1 he
      have := h6 e0 he0
      refine ⟨by rw [← hm.len]; exact (List.getElem?_eq_some_iff.1 this).1, ?_⟩
      rw [nodeOf_at this, nodeOf_at h1]
      exact (g3 e0 he0).2
    · rw [wordsOf_at h1, l2, wordsAt_length, h3, h5, List.map_map]
      congr 2
      refine List.map_congr_left fun e he => ?_
      simp only [Function.comp]
      rw [wordsOf_at (h6 e he)]
  have HSUM := Lib.hid hsum
  have HALL := Lib.hid hall
  have HCB := Lib.hid hcb
  have HMET := Lib.hid hm
  have HMS := Lib.hid hms
  clear hsum hall hcb hm hms
  go_wp2_with fail
  refine (count_any (w.heap.size + 5) w.heap.size V D w2 HMS.out.dct HMS.out.rows (fun e => by have := hV5 _ e; omega) hD0 hDl (fun i st hi => by obtain ⟨_, _, _, _, _, h, _⟩ := HALL.out i st hi; exact h) (wordsOf M L) (fun i => ρ (nodeOf M i)) HCB.out HSUM.out).mono ?_
  rintro e w3 ⟨rfl, D', dn, hd3, hr3, hmod3, htu, h03, hclo3⟩
  have c3 : w3.cell? ⟨w.heap.size + 1, 0, none⟩ = some (.pointer (some ⟨w.heap.size, 0, none⟩)) :=
    (hmod3.cell (p := ⟨w.heap.size + 1, 0, none⟩) (lt_of_cell c1) (fun e => by have := hV5 _ e; simp only at this; omega)).trans c1
  have hbel : Below w.heap.size w w3 := (numStart_below w).trans ((HMET.out.steps.below (fun k h => by cases h) (by unfold numStart; simp; omega)).trans
    ⟨hmod3.os, hmod3.tape, hmod3.output, hmod3.size, fun j hj => hmod3.block j (by have := HMS.out.size; omega) (fun e => by have := hV5 _ e; omega)⟩)
  have HTU := Lib.hid htu
  have HCLO := Lib.hid hclo3
  have HR3 := Lib.hid hr3
  have HD3 := Lib.hid hd3
  clear htu hclo3 hr3 hd3 hmod3
  go_wp2_with fail
  go_ret
  refine ⟨rfl, hbel, fun i => dn[i]? = some true, fun i => L (nodeOf M i), fun i => ρ (nodeOf M i), D', ⟨⟨V, HD3.out, HR3.out.kept0⟩, ⟨h03, by show ρ (nodeOf M 0) ≤ _; rw [nodeOf_at hroot0]; exact hρr⟩, fun i hi => ?_⟩, by simp only; rw [nodeOf_at hroot0]⟩
  have hil : i < D.length := by
    have h1 := (List.getElem?_eq_some_iff.1 hi).1
    have h2 := HTU.out.dlen
    rw [List.length_replicate] at h2
    omega
  have hDi : D[i]? = some D[i] := List.getElem?_eq_getElem hil
  obtain ⟨b, g1, g2⟩ := HTU.out.at_ i _ hDi
  have hb : b = wordsOf M L i := by
    rcases g2 with ⟨_, g3⟩ | ⟨_, g3, _⟩
    · rw [hi, List.getElem?_replicate, if_pos hil] at g3
      cases g3
    · exact g3
  obtain ⟨n, nd, h1, h2, h3, h4, h5, h6⟩ := HALL.out i _ hDi
  have hgn := HMET.out.good _ (List.mem_of_getElem? h1)
  obtain ⟨l1, l2, l3⟩ := HL.out n nd hgn h2
  obtain ⟨_, s2, _⟩ := HSUM.out i _ hDi
  refine ⟨_, g1, ?_, ?_, ?_, fun e he => ⟨HCLO.out i _ hDi hi e he, (s2 e he).2⟩⟩
  · show Asc D[i].edges
    rw [h5]
    exact List.pairwise_map.2 l1
  · show b = _
    rw [hb, wordsOf_at h1, nodeOf_at h1]
  · show L (nodeOf M i) = wordsAt D[i].final D[i].edges _
    rw [nodeOf_at h1, h3, h5, l2]
    exact (wordsAt_map nd.final nd.edges L _ (fun t => (get M t).getD 0) (fun e he => by rw [nodeOf_at (h6 e he)])).symm
end Go.Proofs.Ts
/- A segment in memory. -/
set_option linter.unusedVariables false
set_option linter.unusedSimpArgs false
namespace Go.Proofs.Ts
open Go Go.RowKit

/-- A segment in block sb of documents that are told by their words; kn: what is known. -/
structure SegIs (w : World) (sb : Nat) (D : List (List (List UInt8))) (kn : Value) : Prop where
  ex : ∃ db R Λ ρ Dd pv ps, w.heap[sb]? = some (.cells #[.int .i64 D.length, .pointer (some ⟨db, 0, none⟩), pv, .int .i32 0, .int .u32 0, kn] 96 (0, 0)) ∧
    DictIs w db R Λ ρ Dd ∧ (Λ 0).Pairwise (fun a b => a < b) ∧ (∀ x, x ∈ Λ 0 ↔ postsOf D x ≠ []) ∧ (Λ 0).length ≤ 10000 ∧ (∀ x ∈ Λ 0, x.length ≤ 16) ∧
    w.ownsRow 0 27 1 pv (Λ 0).length ps ∧ ∀ (i : Nat) v x, ps[i]? = some v → (Λ 0)[i]? = some x → w.ownsRow 0 3 1 v (postsOf D x).length ((postsOf D x).map intV)

/-- What is called between two looks at a segment turns its own block, the maps, and new blocks alone. -/
def Quiet (sb : Nat) (w w' : World) : Prop := w.heap.size ≤ w'.heap.size ∧ ∀ (k : Nat) cs t r, w.heap[k]? = some (.cells cs t r) → k ≠ sb → w'.heap[k]? = some (.cells cs t r)
theorem Quiet.refl (sb : Nat) (w : World) : Quiet sb w w := ⟨Nat.le_refl _, fun _ _ _ _ h _ => h⟩
theorem Quiet.trans {sb : Nat} {a b c : World} (h : Quiet sb a b) (k : Quiet sb b c) : Quiet sb a c := ⟨Nat.le_trans h.1 k.1, fun j cs t r h1 h2 => k.2 j cs t r (h.2 j cs t r h1 h2) h2⟩
theorem Quiet.row {sb : Nat} {w w' : World} (h : Quiet sb w w') {B e size n : Nat} {v : Value} {xs : List Value} (hr : w.ownsRow B e size v n xs) (hsb : ∀ cs r, w.heap[sb]? ≠ some (.cells cs e r)) : w'.ownsRow B e size v n xs :=
  ownsRow_block hr fun k hk => by
    rcases hr.2 with ⟨rfl, _⟩ | ⟨g, cap, cur, rfl, _, hg, _⟩
    · cases hk
    · cases hk
      rw [hg]
      exact h.2 _ _ _ _ hg fun e => hsb cur (0, 0) (by rw [← e]; exact hg)
/-- The dictionary's rows stand where no row of its types has turned. -/
theorem RowsIn.cellsKept {B : Nat} {w w' : World} {V : Value} {D : List DS} (h : RowsIn B w V D) (hk : ∀ (k : Nat) cs t r, w.heap[k]? = some (.cells cs t r) → t ≠ 96 → w'.heap[k]? = w.heap[k]?) : RowsIn B w' V D := by
  have go : ∀ {e size n : Nat} {v : Value} {xs : List Value}, e ≠ 96 → w.ownsRow 0 e size v n xs → w'.ownsRow 0 e size v n xs := fun he hr => ownsRow_block hr fun k hk' => by
    rcases hr.2 with ⟨rfl, _⟩ | ⟨g, cap, cur, rfl, _, hg, _⟩
    · cases hk'
    · cases hk'
      exact hk _ _ _ _ hg he
  exact ⟨go (by decide) h.row, h.past, fun i s hi => go (by decide) (h.erow i s hi), h.epast, h.apart, h.apartV⟩
theorem DictIs.kept {w w' : World} {db : Nat} {R : Nat → Prop} {Λ : Nat → List Word} {ρ : Nat → Nat} {D : List DS} (h : DictIs w db R Λ ρ D) (hk : ∀ (k : Nat) cs t r, w.heap[k]? = some (.cells cs t r) → t ≠ 96 → w'.heap[k]? = w.heap[k]?) : DictIs w' db R Λ ρ D := by
  obtain ⟨V, h1, h2⟩ := h.mem
  exact ⟨⟨V, (hk _ _ _ _ h1 (by decide)).trans h1, h2.cellsKept hk⟩, h.root, h.state⟩
theorem ownsRow_typed {w w' : World} {B e size n : Nat} {v : Value} {xs : List Value} (hr : w.ownsRow B e size v n xs) (hk : ∀ (k : Nat) cs r, w.heap[k]? = some (.cells cs e r) → w'.heap[k]? = w.heap[k]?) : w'.ownsRow B e size v n xs :=
  ownsRow_block hr fun k hk' => by
    rcases hr.2 with ⟨rfl, _⟩ | ⟨g, cap, cur, rfl, _, hg, _⟩
    · cases hk'
    · cases hk'
      exact hk _ _ _ hg

theorem wordsB_mem {d : ByteArray} {t : List UInt8} (h : t ∈ wordsB d) : 0 < t.length ∧ t.length ≤ 16 := by
  unfold wordsB at h
  rw [List.mem_filter, List.mem_map] at h
  obtain ⟨⟨f, hf, rfl⟩, h16⟩ := h
  have hne := (fields_all d.data.toList [] (by simp) f hf).1
  refine ⟨?_, by simpa using h16⟩
  unfold lowL
  rw [List.length_map]
  exact List.length_pos_iff.2 hne
theorem wordsB_length (d : ByteArray) : (wordsB d).length ≤ d.size + 1 := by
  unfold wordsB
  have h1 := List.length_filter_le (fun w : List UInt8 => decide (w.length ≤ 16)) ((fields d.data.toList []).map lowL)
  have h2 := fields_count d.data.toList []
  rw [List.length_map] at h1
  have h3 : d.data.toList.length = d.size := by simp
  omega
theorem words_total : ∀ (docs : List ByteArray), (∀ d ∈ docs, d.size ≤ 200) → (docs.flatMap wordsB).length ≤ 201 * docs.length
  | [], _ => by simp
  | d :: ds, h => by
    have ih := words_total ds fun x hx => h x (by simp [hx])
    have h1 := wordsB_length d
    have h2 := h d (by simp)
    rw [List.flatMap_cons, List.length_append, List.length_cons]
    omega
theorem postsOf_words {docs : List ByteArray} {x : List UInt8} (h : postsOf ((docs.map wordsB).take docs.length) x ≠ []) : ∃ d ∈ docs, x ∈ wordsB d := by
  obtain ⟨j, hj⟩ := List.exists_mem_of_ne_nil _ h
  obtain ⟨ws, h1, h2⟩ := (postsOf_mem _ _ _).1 hj
  have h3 := List.mem_of_getElem? h1
  obtain ⟨d, h4, rfl⟩ := List.mem_map.1 (List.mem_of_mem_take h3)
  exact ⟨d, h4, h2⟩
end Go.Proofs.Ts
/- What a new node behind a new edge, and an end, make of the builder in memory. -/
set_option linter.unusedVariables false
set_option linter.unusedSimpArgs false
set_option linter.unusedSectionVars false
namespace Go.Proofs.Ts
open Go Go.RowKit

theorem StIn.grow {B bb kb ib : Nat} {w W : World} {s : St} (h : StIn B bb kb ib w s) {L : Nat} {nd : Nd} {c : UInt8} {v : Value} (hG : s.G L = some nd)
    (hM : W.heap[w.heap.size]? = some (.cells #[.bool false, .slice none 0 0] 192 (0, 0))) (hmv : Moves w nd.v W v) (hne : v.ownBlock ≠ some w.heap.size)
    (hrow : W.ownsRow 0 194 2 v (nd.edges.length + 1) (Ts.edgeCells (nd.edges ++ [(c, w.heap.size)]))) :
    StIn B bb kb ib (W.setCell ⟨L, 1, none⟩ v) (growG s L w.heap.size c nd v) := by
  obtain ⟨a1, a2⟩ := h.mapsApart
  have lt : ∀ {x : Nat} {o : Obj}, w.heap[x]? = some o → x < w.heap.size := fun hx => (Array.getElem?_eq_some_iff.1 hx).1
  have hLlt := lt (h.nodes.node L nd hG)
  have hLb := h.nodeBlock hG
  have hvL : nd.v.ownBlock ≠ some L := fun e => (h.rowBlock hG e).2.2.2 L nd hG rfl
  have hBsz : B ≤ w.heap.size := Nat.le_trans (h.nodes.ge L nd hG).1 (Nat.le_of_lt hLlt)
  -- blocks that have not turned
  have old : ∀ k, k < w.heap.size → k ≠ L → nd.v.ownBlock ≠ some k → (W.setCell ⟨L, 1, none⟩ v).heap[k]? = w.heap[k]? := fun k hk hkL hkv =>
    (Below.heap_setCell W _ _ k hkL).trans (hmv.block hk hkv)
  have oldL : (W.setCell ⟨L, 1, none⟩ v).heap[L]? = some (.cells #[.bool nd.final, v] 192 (0, 0)) := by
    have hWL : W.heap[L]? = some (.cells #[.bool nd.final, nd.v] 192 (0, 0)) := (hmv.block hLlt hvL).trans (h.nodes.node L nd hG)
    have := heap_setCell_same W L 1 _ _ v hWL
    simpa using this
  have newM : (W.setCell ⟨L, 1, none⟩ v).heap[w.heap.size]? = some (.cells #[.bool false, .slice none 0 0] 192 (0, 0)) := (Below.heap_setCell W _ _ _ (by show w.heap.size ≠ L; omega)).trans hM
  have vblock : ∀ g, v.ownBlock = some g → g ≠ L ∧ (nd.v.ownBlock = some g ∨ w.heap.size < g) := fun g hg => by
    rcases hmv.lies with e | ⟨g', e, hg'⟩
    · rw [hg] at e
      exact ⟨fun x => hvL (by rw [← e, x]), .inl e.symm⟩
    · rw [hg] at e
      cases e
      have : g ≠ w.heap.size := fun x => hne (by rw [hg, x])
      exact ⟨by omega, .inr (by omega)⟩
  have vpast : Past B v := hmv.past (h.nodes.ge L nd hG).2 hBsz
  have dom : ∀ k, (s.G k).isSome → ((growG s L w.heap.size c nd v).G k).isSome := fun k hk => by
    simp only [growG, upd]
    split
    · rfl
    · split
      · rfl
      · exact hk
  have cases' : ∀ b x, (growG s L w.heap.size c nd v).G b = some x → (b = L ∧ x = { nd with edges := nd.edges ++ [(c, w.heap.size)], v := v }) ∨ (b = w.heap.size ∧ b ≠ L ∧ x = ⟨false, [], .slice none 0 0⟩) ∨ (b ≠ L ∧ b < w.heap.size ∧ s.G b = some x) := fun b x hb => by
    simp only [growG, upd] at hb
    split at hb
    · rename_i e; cases hb; exact .inl ⟨e, rfl⟩
    · rename_i e
      split at hb
      · rename_i e'; cases hb; exact .inr (.inl ⟨e', e, rfl⟩)
      · exact .inr (.inr ⟨e, lt (h.nodes.node b x hb), hb⟩)
  refine ⟨⟨fun b x hb => ?_, fun b x hb => ?_, fun b x hb => ?_, fun b b' x x' g hbb hb hb' hg => ?_⟩, h.bb_ge, h.kb_ge, h.ib_ge, h.ne, ?_, h.kn.of_block (old kb h.kn.lt (fun e => hLb.2.1 e.symm) (fun e => (h.rowBlock hG e).2.1 rfl)),
    h.ids.of_block (old ib h.ids.lt (fun e => hLb.2.2 e.symm) (fun e => (h.rowBlock hG e).2.2.1 rfl)), fun p hp => dom _ (h.idsIn p hp), fun p hp => dom _ (h.knIn p hp), fun b x hb p hp => ?_⟩
  · rcases cases' b x hb with ⟨rfl, rfl⟩ | ⟨rfl, _, rfl⟩ | ⟨_, _, hb'⟩
    · exact ⟨(h.nodes.ge b nd hG).1, vpast⟩
    · exact ⟨hBsz, fun k hk => by cases hk⟩
    · exact h.nodes.ge b x hb'
  · rcases cases' b x hb with ⟨rfl, rfl⟩ | ⟨rfl, _, rfl⟩ | ⟨hbL, hbl, hb'⟩
    · exact oldL
    · exact newM
    · rw [old b hbl hbL (fun e => (h.rowBlock hG e).2.2.2 b x hb' rfl)]
      exact h.nodes.node b x hb'
  · rcases cases' b x hb with ⟨rfl, rfl⟩ | ⟨rfl, _, rfl⟩ | ⟨hbL, hbl, hb'⟩
    · have hl : (nd.edges ++ [(c, w.heap.size)]).length = nd.edges.length + 1 := by simp
      simp only [hl]
      exact ownsRow_block hrow fun g hg => Below.heap_setCell W _ _ g (vblock g hg).1
    · exact World.ownsRow_nil _ _ _ _
    · refine ownsRow_block (h.nodes.row b x hb') fun g hg => old g ((h.nodes.row b x hb').lt g hg).2 ?_ ?_
      · exact (h.rowBlock hb' hg).2.2.2 L nd hG
      · intro e
        exact h.nodes.apart L b nd x g (Ne.symm hbL) hG hb' e hg
  · rcases cases' b x hb with ⟨rfl, rfl⟩ | ⟨rfl, _, rfl⟩ | ⟨hbL, hbl, hb1⟩
    · rcases cases' b' x' hb' with ⟨rfl, rfl⟩ | ⟨rfl, _, rfl⟩ | ⟨hbL', hbl', hb1'⟩
      · exact absurd rfl hbb
      · intro e; cases e
      · intro e
        rcases (vblock g hg).2 with e' | e'
        · exact h.nodes.apart b b' nd x' g hbb hG hb1' e' e
        · have := ((h.nodes.row b' x' hb1').lt g e).2; omega
    · cases hg
    · rcases cases' b' x' hb' with ⟨rfl, rfl⟩ | ⟨rfl, _, rfl⟩ | ⟨hbL', hbl', hb1'⟩
      · intro e
        rcases (vblock g e).2 with e' | e'
        · exact h.nodes.apart b b' x nd g hbb hb1 hG hg e'
        · have := ((h.nodes.row b x hb1).lt g hg).2; omega
      · intro e; cases e
      · exact h.nodes.apart b b' x x' g hbb hb1 hb1' hg
  · rw [old bb (lt h.bld) (fun e => hLb.1 e.symm) (fun e => (h.rowBlock hG e).1 rfl)]
    exact h.bld
  · rcases cases' b x hb with ⟨rfl, rfl⟩ | ⟨rfl, _, rfl⟩ | ⟨hbL, hbl, hb'⟩
    · rcases List.mem_append.1 hp with hp | hp
      · exact dom _ (h.toIn b nd hG p hp)
      · simp at hp
        subst hp
        simp only [growG, upd]
        split
        · rfl
        · simp
    · cases hp
    · exact dom _ (h.toIn b x hb' p hp)

theorem StIn.close {B bb kb ib : Nat} {w : World} {s : St} (h : StIn B bb kb ib w s) {L : Nat} {nd : Nd} (hG : s.G L = some nd) : StIn B bb kb ib (w.setCell ⟨L, 0, none⟩ (.bool true)) (closeG s L nd) := by
  have hLb := h.nodeBlock hG
  have old : ∀ k, k ≠ L → (w.setCell ⟨L, 0, none⟩ (.bool true)).heap[k]? = w.heap[k]? := fun k hk => Below.heap_setCell w _ _ k hk
  have oldL : (w.setCell ⟨L, 0, none⟩ (.bool true)).heap[L]? = some (.cells #[.bool true, nd.v] 192 (0, 0)) := by
    have := heap_setCell_same w L 0 _ _ (.bool true) (h.nodes.node L nd hG)
    simpa using this
  have dom : ∀ k, (s.G k).isSome → ((closeG s L nd).G k).isSome := fun k hk => by
    simp only [closeG, upd]
    split
    · rfl
    · exact hk
  have cases' : ∀ b x, (closeG s L nd).G b = some x → ∃ y, s.G b = some y ∧ x.v = y.v ∧ x.edges = y.edges ∧ ((b = L ∧ x.final = true) ∨ (b ≠ L ∧ x = y)) := fun b x hb => by
    simp only [closeG, upd] at hb
    split at hb
    · rename_i e; cases hb; subst e; exact ⟨nd, hG, rfl, rfl, .inl ⟨rfl, rfl⟩⟩
    · rename_i e; exact ⟨x, hb, rfl, rfl, .inr ⟨e, rfl⟩⟩
  refine ⟨⟨fun b x hb => ?_, fun b x hb => ?_, fun b x hb => ?_, fun b b' x x' g hbb hb hb' hg => ?_⟩, h.bb_ge, h.kb_ge, h.ib_ge, h.ne, (old bb (Ne.symm hLb.1)).trans h.bld, h.kn.of_block (old kb (Ne.symm hLb.2.1)),
    h.ids.of_block (old ib (Ne.symm hLb.2.2)), fun p hp => dom _ (h.idsIn p hp), fun p hp => dom _ (h.knIn p hp), fun b x hb p hp => ?_⟩
  · obtain ⟨y, hy, e1, _, _⟩ := cases' b x hb
    rw [e1]
    exact h.nodes.ge b y hy
  · obtain ⟨y, hy, e1, _, ⟨rfl, e3⟩ | ⟨e2, rfl⟩⟩ := cases' b x hb
    · rw [hG] at hy
      cases hy
      rw [e1, e3]
      exact oldL
    · rw [old b e2]
      exact h.nodes.node b _ hy
  · obtain ⟨y, hy, e1, e2, _⟩ := cases' b x hb
    rw [e1, e2]
    exact ownsRow_block (h.nodes.row b y hy) fun g hg => old g ((h.rowBlock hy hg).2.2.2 L nd hG)
  · obtain ⟨y, hy, e1, _, _⟩ := cases' b x hb
    obtain ⟨y', hy', e1', _, _⟩ := cases' b' x' hb'
    rw [e1] at hg
    rw [e1']
    exact h.nodes.apart b b' y y' g hbb hy hy' hg
  · obtain ⟨y, hy, _, e2, _⟩ := cases' b x hb
    rw [e2] at hp
    exact dom _ (h.toIn b y hy p hp)
end Go.Proofs.Ts
