/- Lemmas towards the statement Sorted of termsearch: walks of the program's functions and plain laws on lists (TsBoth, TsErrsB, TsErrsC, TsAskE, TsWider, TsSugW). Conditions: those that each theorem names. -/
import Derived.Test.YtglafkgakcfahaaGreatDoorSortedPK
import Derived.Test.YtglafkgakcfahaaGreatDoorSortedPL
import Derived.Deep.RegionWith
import Derived.Test.YtglafkgakcfahaaGreatDoorSortedPN
/- The walks of both and same: two rising lists made one; two lists compared. -/
set_option linter.unusedVariables false
set_option linter.unusedSimpArgs false
namespace Go.Proofs.Ts
open Go Go.RowKit

/-- Two lists made one, as both does it. -/
def bothL : List Nat → List Nat → List Nat
  | [], [] => []
  | x :: a, [] => x :: bothL a []
  | [], y :: b => y :: bothL [] b
  | x :: a, y :: b => if x < y then x :: bothL a (y :: b) else if y < x then y :: bothL (x :: a) b else x :: bothL a b
termination_by a b => a.length + b.length

theorem bothL_nil : ∀ b : List Nat, bothL [] b = b
  | [] => by unfold bothL; rfl
  | y :: b => by unfold bothL; rw [bothL_nil b]
/-- What is found by less is within what is found by more. -/
theorem bothL_filter (p q : Nat → Bool) (hpq : ∀ x, p x = true → q x = true) : ∀ l : List Nat, l.Pairwise (· < ·) → bothL (l.filter p) (l.filter q) = l.filter q
  | [], _ => by simp [bothL]
  | x :: t, hl => by
    obtain ⟨h1, h2⟩ := List.pairwise_cons.1 hl
    have ih := bothL_filter p q hpq t h2
    by_cases hp : p x = true
    · rw [List.filter_cons, if_pos hp, List.filter_cons, if_pos (hpq x hp)]
      unfold bothL
      rw [if_neg (Nat.lt_irrefl x), if_neg (Nat.lt_irrefl x), ih]
    · rw [List.filter_cons, if_neg hp, List.filter_cons]
      by_cases hq : q x = true
      · rw [if_pos hq]
        cases ha : t.filter p with
        | nil => rw [bothL_nil]
        | cons y a =>
          have hy : x < y := h1 y (List.mem_filter.1 (show y ∈ t.filter p by rw [ha]; exact List.mem_cons_self)).1
          unfold bothL
          rw [if_neg (by omega), if_pos hy, ← ha, ih]
      · rw [if_neg hq]
        exact ih
theorem docs_both (D : List (List (List UInt8))) {f g : List UInt8 → Bool} (h : ∀ u, f u = true → g u = true) : bothL (docsOf D f) (docsOf D g) = docsOf D g := by
  unfold docsOf
  refine bothL_filter _ _ (fun d hd => ?_) _ List.pairwise_lt_range
  rw [List.any_eq_true] at hd ⊢
  obtain ⟨u, hu, hf⟩ := hd
  exact ⟨u, hu, h u hf⟩
theorem docsOf_len (D : List (List (List UInt8))) (f : List UInt8 → Bool) : (docsOf D f).length ≤ D.length := by
  unfold docsOf
  exact Nat.le_trans (List.length_filter_le _ _) (by simp)
theorem docsOf_lt (D : List (List (List UInt8))) (f : List UInt8 → Bool) : ∀ x ∈ docsOf D f, x < D.length := fun x hx => by
  unfold docsOf at hx
  simpa using (List.mem_filter.1 hx).1
theorem bothL_step {a b : List Nat} {i k : Nat} :
    (i < a.length → k = b.length → bothL (a.drop i) (b.drop k) = a.getD i 0 :: bothL (a.drop (i + 1)) (b.drop k)) ∧
    (i = a.length → k < b.length → bothL (a.drop i) (b.drop k) = b.getD k 0 :: bothL (a.drop i) (b.drop (k + 1))) ∧
    (i < a.length → k < b.length → a.getD i 0 < b.getD k 0 → bothL (a.drop i) (b.drop k) = a.getD i 0 :: bothL (a.drop (i + 1)) (b.drop k)) ∧
    (i < a.length → k < b.length → b.getD k 0 < a.getD i 0 → bothL (a.drop i) (b.drop k) = b.getD k 0 :: bothL (a.drop i) (b.drop (k + 1))) ∧
    (i < a.length → k < b.length → b.getD k 0 = a.getD i 0 → bothL (a.drop i) (b.drop k) = a.getD i 0 :: bothL (a.drop (i + 1)) (b.drop (k + 1))) := by
  have da : i < a.length → a.drop i = a.getD i 0 :: a.drop (i + 1) := fun h => by
    rw [List.drop_eq_getElem_cons h, List.getD_eq_getElem?_getD, List.getElem?_eq_getElem h]; rfl
  have db : k < b.length → b.drop k = b.getD k 0 :: b.drop (k + 1) := fun h => by
    rw [List.drop_eq_getElem_cons h, List.getD_eq_getElem?_getD, List.getElem?_eq_getElem h]; rfl
  have ea : i = a.length → a.drop i = [] := fun h => List.drop_eq_nil_of_le (by omega)
  have eb : k = b.length → b.drop k = [] := fun h => List.drop_eq_nil_of_le (by omega)
  refine ⟨fun h1 h2 => ?_, fun h1 h2 => ?_, fun h1 h2 h3 => ?_, fun h1 h2 h3 => ?_, fun h1 h2 h3 => ?_⟩
  · rw [da h1, eb h2]; conv => lhs; unfold bothL
  · rw [ea h1, db h2]; conv => lhs; unfold bothL
  · rw [da h1, db h2]; conv => lhs; unfold bothL
    rw [if_pos h3]
  · rw [da h1, db h2]; conv => lhs; unfold bothL
    rw [if_neg (by omega), if_pos h3]
  · rw [da h1, db h2]; conv => lhs; unfold bothL
    rw [if_neg (by omega), if_neg (by omega)]

/-- Where both stands. -/
structure BAt (w wr : World) (v : Value) (out : List Nat) : Prop where
  below : Below w.heap.size w wr
  row : wr.ownsRow 0 3 1 v out.length (out.map intV)
  past : Past w.heap.size v
theorem BAt.same {w wr w' : World} {v : Value} {out : List Nat} (h : BAt w wr v out) (hb : Below wr.heap.size wr w') : BAt w w' v out :=
  ⟨h.below.trans (hb.mono h.below.size), ownsRow_block h.row fun k e => hb.block k (h.row.lt k e).2, h.past⟩

/-- A row that stands as it was. -/
def RowOf (w : World) (v : Value) (a : List Nat) : Prop := w.ownsRow 0 3 1 v a.length (a.map intV)
theorem RowOf.cell {w w' : World} {v : Value} {a : List Nat} (h : RowOf w v a) (hb : Below w.heap.size w w') {i : Nat} (hi : i < a.length) : ∃ g cap, v = .slice (some ⟨g, 0, none⟩) a.length cap ∧ w'.cell? ⟨g, i, none⟩ = some (.int .i64 ((a.getD i 0 : Nat) : Int)) := by
  obtain ⟨g, cap, e, hc⟩ := ownsRow_cell h (j := i) (u := intV (a.getD i 0)) (by rw [List.getElem?_map, List.getD_eq_getElem?_getD, List.getElem?_eq_getElem hi]; rfl)
  exact ⟨g, cap, e, (hb.cell (p := ⟨g, i, none⟩) (lt_of_cell hc)).trans hc⟩

set_option maxRecDepth 100000 in
set_option maxHeartbeats 4000000 in
theorem both_any (a b : List Nat) (va vb : Value) (w : World) (ha : RowOf w va a) (hb : RowOf w vb b) (hla : a.length ≤ 1000) (hlb : b.length ≤ 1000) (ka : ∀ x ∈ a, x ≤ 1000000) (kb : ∀ x ∈ b, x ≤ 1000000) :
    Calls Tryz.prog 18 #[va, vb] w fun e w' => ∃ ov, e = .returned ov ∧ Below w.heap.size w w' ∧ RowOf w' ov (bothL a b) := by
  obtain ⟨aa, ac, rfl⟩ := ownsRow_form ha
  obtain ⟨ba, bc, rfl⟩ := ownsRow_form hb
  obtain ⟨i0, hi, hz0, hz1, hz2⟩ := info_parts Tryz.info3
  have hst : BAt w w (.slice none 0 0) [] := ⟨Below.refl _ _, World.ownsRow_nil _ _ _ _, fun k e => by cases e⟩
  have HST := Lib.hid hst
  have HA := Lib.hid ha
  have HB := Lib.hid hb
  have KA : Hid (∀ i, a.getD i 0 ≤ 1000000) := Lib.hid fun i => by
    rw [List.getD_eq_getElem?_getD]
    cases h : a[i]? with
    | none => simp
    | some x => exact ka x (List.mem_of_getElem? h)
  have KB : Hid (∀ i, b.getD i 0 ≤ 1000000) := Lib.hid fun i => by
    rw [List.getD_eq_getElem?_getD]
    cases h : b[i]? with
    | none => simp
    | some x => exact kb x (List.mem_of_getElem? h)
  clear hst ha hb ka kb
  go_enter Tryz.func18, Tryz.ntmps18
  go_wp2_with fail
  go_loopw [5, 6, 7] (fun v iv kv wr => ∃ (i k : Nat) (out : List Nat), i ≤ a.length ∧ k ≤ b.length ∧ iv = .int .i64 (i : Int) ∧ kv = .int .i64 (k : Int) ∧ out.length ≤ i + k ∧ Hid (BAt w wr v out) ∧ Hid (out ++ bothL (a.drop i) (b.drop k) = bothL a b)) (fun _ iv kv _ => a.length + b.length - ((intOf iv).toNat + (intOf kv).toNat))
  case atStart => exact ⟨0, 0, [], Nat.zero_le _, Nat.zero_le _, rfl, rfl, Nat.zero_le _, HST, Lib.hid rfl⟩
  case round =>
    obtain ⟨i, k, out, hia, hkb, rfl, rfl, hol, HO, HE⟩ := hrel
    have q1 : IntKind.i64.wrap ((i : Int) + 1) = (i : Int) + 1 := IntWalk.i64_in _ (by omega)
    have q2 : IntKind.i64.wrap ((k : Int) + 1) = (k : Int) + 1 := IntWalk.i64_in _ (by omega)
    have hhi := hi
    by_cases hil : i < a.length
    · by_cases hkl : k < b.length
      · rcases Nat.lt_trichotomy (a.getD i 0) (b.getD k 0) with hcm | hcm | hcm
        · obtain ⟨ga, cpa, ea, ca⟩ := HA.out.cell HO.out.below hil
          simp only [Value.slice.injEq] at ea
          obtain ⟨rfl, _, rfl⟩ := ea
          have xa := KA.out i
          have zi : (0 : Int) ≤ (i : Int) ∧ (i : Int) < (a.length : Int) := by omega
          have gi : ((i : Int) == (a.length : Int)) = false := by rw [Bool.eq_false_iff]; intro h; rw [beq_iff_eq] at h; omega
          have li : decide ((i : Int) < (a.length : Int)) = true := by simp; omega
          obtain ⟨gb, cpb, eb, cb⟩ := HB.out.cell HO.out.below hkl
          simp only [Value.slice.injEq] at eb
          obtain ⟨rfl, _, rfl⟩ := eb
          have xb := KB.out k
          have zk : (0 : Int) ≤ (k : Int) ∧ (k : Int) < (b.length : Int) := by omega
          have gk : ((k : Int) == (b.length : Int)) = false := by rw [Bool.eq_false_iff]; intro h; rw [beq_iff_eq] at h; omega
          have lk : decide ((k : Int) < (b.length : Int)) = true := by simp; omega
          have hs := bothL_step.2.2.1 hil hkl hcm
          have HS := Lib.hid hs
          clear hs
          generalize hAv : a.getD i 0 = Av at *
          generalize hBv : b.getD k 0 = Bv at *
          have c1 : decide ((Av : Int) < (Bv : Int)) = true := by simp <;> omega
          have c2 : decide ((Bv : Int) < (Av : Int)) = false := by simp <;> omega
          go_upto_region 8 with fail
          go_quiet (fail)
          generalize hW5 : wr.drewN nq = W5 at *
          have hbq : Below wr.heap.size wr W5 := by rw [← hW5]; exact below_drewNv (Below.refl _ _) _
          have hO5 := HO.out.same hbq
          have ca5 : W5.cell? ⟨ga, i, none⟩ = some (.int .i64 (Av : Int)) := (hbq.cell (p := ⟨ga, i, none⟩) (lt_of_cell ca)).trans ca
          have cb5 : W5.cell? ⟨gb, k, none⟩ = some (.int .i64 (Bv : Int)) := (hbq.cell (p := ⟨gb, k, none⟩) (lt_of_cell cb)).trans cb
          have HO5 := Lib.hid hO5
          clear hbq hO5 hW5 ca cb
          have hrow3 : (W5.alloc (.cells #[.int .i64 (Av : Int)] 3)).ownsRow 0 3 1 u5 out.length (out.map intV) := HO5.out.row.alloc _
          go_wp2_with (at_builtin; refine wpList_append_lies rfl _ _ 27 rfl 3 i0 (.int .i64 0) 1 8 Tryz.underlying27 hi hz0 hz1 hz2 rfl (by decide) u5 out.length (out.map intV) rfl hrow3 ⟨W5.heap.size, 0, none⟩ 1 1 [.int .i64 (Av : Int)] rfl rfl (cell_one_new W5 _ _) (by simp [Value.oneCell']) (by decide) (by unfold maxLen; omega) (by omega) ?_; intro v4 W7 hrow4 hgrow4 hlies4; simp only [put_lit, List.set_cons_succ, List.set_cons_zero]; have HR4 := Lib.hid hrow4; have HG4 := Lib.hid hgrow4; have HL4 := Lib.hid hlies4; clear hrow4 hgrow4 hlies4)
          go_roundw
          case rel =>
            have hmv : Moves W5 u5 W7 v4 := (Moves.alloc W5 u5 _).trans (Moves.append HG4.out HL4.out)
            refine ⟨i + 1, k, out ++ [Av], by omega, by omega, by go_num, by go_num, by rw [List.length_append, List.length_singleton]; omega, Lib.hid ⟨hmv.below (fun k e => HO5.out.past k e) HO5.out.below HO5.out.below.size, ?_, hmv.past HO5.out.past HO5.out.below.size⟩, Lib.hid ?_⟩
            · rw [List.length_append, List.length_singleton, List.map_append]
              exact HR4.out
            · rw [← HE.out, HS.out, List.append_assoc]
              rfl
          case measure => (simp [intOf]) <;> omega
        · obtain ⟨ga, cpa, ea, ca⟩ := HA.out.cell HO.out.below hil
          simp only [Value.slice.injEq] at ea
          obtain ⟨rfl, _, rfl⟩ := ea
          have xa := KA.out i
          have zi : (0 : Int) ≤ (i : Int) ∧ (i : Int) < (a.length : Int) := by omega
          have gi : ((i : Int) == (a.length : Int)) = false := by rw [Bool.eq_false_iff]; intro h; rw [beq_iff_eq] at h; omega
          have li : decide ((i : Int) < (a.length : Int)) = true := by simp; omega
          obtain ⟨gb, cpb, eb, cb⟩ := HB.out.cell HO.out.below hkl
          simp only [Value.slice.injEq] at eb
          obtain ⟨rfl, _, rfl⟩ := eb
          have xb := KB.out k
          have zk : (0 : Int) ≤ (k : Int) ∧ (k : Int) < (b.length : Int) := by omega
          have gk : ((k : Int) == (b.length : Int)) = false := by rw [Bool.eq_false_iff]; intro h; rw [beq_iff_eq] at h; omega
          have lk : decide ((k : Int) < (b.length : Int)) = true := by simp; omega
          have hs := bothL_step.2.2.2.2 hil hkl hcm.symm
          have HS := Lib.hid hs
          clear hs
          generalize hAv : a.getD i 0 = Av at *
          generalize hBv : b.getD k 0 = Bv at *
          subst hcm
          have c1 : decide ((Av : Int) < (Av : Int)) = false := by simp <;> omega
          have c2 : decide ((Av : Int) < (Av : Int)) = false := by simp <;> omega
          go_upto_region 8 with fail
          go_quiet (fail)
          generalize hW5 : wr.drewN nq = W5 at *
          have hbq : Below wr.heap.size wr W5 := by rw [← hW5]; exact below_drewNv (Below.refl _ _) _
          have hO5 := HO.out.same hbq
          have ca5 : W5.cell? ⟨ga, i, none⟩ = some (.int .i64 (Av : Int)) := (hbq.cell (p := ⟨ga, i, none⟩) (lt_of_cell ca)).trans ca
          have cb5 : W5.cell? ⟨gb, k, none⟩ = some (.int .i64 (Av : Int)) := (hbq.cell (p := ⟨gb, k, none⟩) (lt_of_cell cb)).trans cb
          have HO5 := Lib.hid hO5
          clear hbq hO5 hW5 ca cb
          go_upto_region 11 with fail
          go_quiet (fail)
          generalize hW6 : W5.drewN nq = W6 at *
          have hbq : Below W5.heap.size W5 W6 := by rw [← hW6]; exact below_drewNv (Below.refl _ _) _
          have hO6 := HO5.out.same hbq
          have ca6 : W6.cell? ⟨ga, i, none⟩ = some (.int .i64 (Av : Int)) := (hbq.cell (p := ⟨ga, i, none⟩) (lt_of_cell ca5)).trans ca5
          have cb6 : W6.cell? ⟨gb, k, none⟩ = some (.int .i64 (Av : Int)) := (hbq.cell (p := ⟨gb, k, none⟩) (lt_of_cell cb5)).trans cb5
          have HO6 := Lib.hid hO6
          clear hbq hO6 hW6 ca5 cb5
          have hrow3 : (W6.alloc (.cells #[.int .i64 (Av : Int)] 3)).ownsRow 0 3 1 u5 out.length (out.map intV) := HO6.out.row.alloc _
          go_wp2_with (at_builtin; refine wpList_append_lies rfl _ _ 27 rfl 3 i0 (.int .i64 0) 1 8 Tryz.underlying27 hi hz0 hz1 hz2 rfl (by decide) u5 out.length (out.map intV) rfl hrow3 ⟨W6.heap.size, 0, none⟩ 1 1 [.int .i64 (Av : Int)] rfl rfl (cell_one_new W6 _ _) (by simp [Value.oneCell']) (by decide) (by unfold maxLen; omega) (by omega) ?_; intro v4 W7 hrow4 hgrow4 hlies4; simp only [put_lit, List.set_cons_succ, List.set_cons_zero]; have HR4 := Lib.hid hrow4; have HG4 := Lib.hid hgrow4; have HL4 := Lib.hid hlies4; clear hrow4 hgrow4 hlies4)
          go_roundw
          case rel =>
            have hmv : Moves W6 u5 W7 v4 := (Moves.alloc W6 u5 _).trans (Moves.append HG4.out HL4.out)
            refine ⟨i + 1, k + 1, out ++ [Av], by omega, by omega, by go_num, by go_num, by rw [List.length_append, List.length_singleton]; omega, Lib.hid ⟨hmv.below (fun k e => HO6.out.past k e) HO6.out.below HO6.out.below.size, ?_, hmv.past HO6.out.past HO6.out.below.size⟩, Lib.hid ?_⟩
            · rw [List.length_append, List.length_singleton, List.map_append]
              exact HR4.out
            · rw [← HE.out, HS.out, List.append_assoc]
              rfl
          case measure => (simp [intOf]) <;> omega
        · obtain ⟨ga, cpa, ea, ca⟩ := HA.out.cell HO.out.below hil
          simp only [Value.slice.injEq] at ea
          obtain ⟨rfl, _, rfl⟩ := ea
          have xa := KA.out i
          have zi : (0 : Int) ≤ (i : Int) ∧ (i : Int) < (a.length : Int) := by omega
          have gi : ((i : Int) == (a.length : Int)) = false := by rw [Bool.eq_false_iff]; intro h; rw [beq_iff_eq] at h; omega
          have li : decide ((i : Int) < (a.length : Int)) = true := by simp; omega
          obtain ⟨gb, cpb, eb, cb⟩ := HB.out.cell HO.out.below hkl
          simp only [Value.slice.injEq] at eb
          obtain ⟨rfl, _, rfl⟩ := eb
          have xb := KB.out k
          have zk : (0 : Int) ≤ (k : Int) ∧ (k : Int) < (b.length : Int) := by omega
          have gk : ((k : Int) == (b.length : Int)) = false := by rw [Bool.eq_false_iff]; intro h; rw [beq_iff_eq] at h; omega
          have lk : decide ((k : Int) < (b.length : Int)) = true := by simp; omega
          have hs := bothL_step.2.2.2.1 hil hkl hcm
          have HS := Lib.hid hs
          clear hs
          generalize hAv : a.getD i 0 = Av at *
          generalize hBv : b.getD k 0 = Bv at *
          have c1 : decide ((Av : Int) < (Bv : Int)) = false := by simp <;> omega
          have c2 : decide ((Bv : Int) < (Av : Int)) = true := by simp <;> omega
          go_upto_region 8 with fail
          go_quiet (fail)
          generalize hW5 : wr.drewN nq = W5 at *
          have hbq : Below wr.heap.size wr W5 := by rw [← hW5]; exact below_drewNv (Below.refl _ _) _
          have hO5 := HO.out.same hbq
          have ca5 : W5.cell? ⟨ga, i, none⟩ = some (.int .i64 (Av : Int)) := (hbq.cell (p := ⟨ga, i, none⟩) (lt_of_cell ca)).trans ca
          have cb5 : W5.cell? ⟨gb, k, none⟩ = some (.int .i64 (Bv : Int)) := (hbq.cell (p := ⟨gb, k, none⟩) (lt_of_cell cb)).trans cb
          have HO5 := Lib.hid hO5
          clear hbq hO5 hW5 ca cb
          go_upto_region 11 with fail
          go_quiet (fail)
          generalize hW6 : W5.drewN nq = W6 at *
          have hbq : Below W5.heap.size W5 W6 := by rw [← hW6]; exact below_drewNv (Below.refl _ _) _
          have hO6 := HO5.out.same hbq
          have ca6 : W6.cell? ⟨ga, i, none⟩ = some (.int .i64 (Av : Int)) := (hbq.cell (p := ⟨ga, i, none⟩) (lt_of_cell ca5)).trans ca5
          have cb6 : W6.cell? ⟨gb, k, none⟩ = some (.int .i64 (Bv : Int)) := (hbq.cell (p := ⟨gb, k, none⟩) (lt_of_cell cb5)).trans cb5
          have HO6 := Lib.hid hO6
          clear hbq hO6 hW6 ca5 cb5
          have hrow3 : (W6.alloc (.cells #[.int .i64 (Bv : Int)] 3)).ownsRow 0 3 1 u5 out.length (out.map intV) := HO6.out.row.alloc _
          go_wp2_with (at_builtin; refine wpList_append_lies rfl _ _ 27 rfl 3 i0 (.int .i64 0) 1 8 Tryz.underlying27 hi hz0 hz1 hz2 rfl (by decide) u5 out.length (out.map intV) rfl hrow3 ⟨W6.heap.size, 0, none⟩ 1 1 [.int .i64 (Bv : Int)] rfl rfl (cell_one_new W6 _ _) (by simp [Value.oneCell']) (by decide) (by unfold maxLen; omega) (by omega) ?_; intro v4 W7 hrow4 hgrow4 hlies4; simp only [put_lit, List.set_cons_succ, List.set_cons_zero]; have HR4 := Lib.hid hrow4; have HG4 := Lib.hid hgrow4; have HL4 := Lib.hid hlies4; clear hrow4 hgrow4 hlies4)
          go_roundw
          case rel =>
            have hmv : Moves W6 u5 W7 v4 := (Moves.alloc W6 u5 _).trans (Moves.append HG4.out HL4.out)
            refine ⟨i, k + 1, out ++ [Bv], by omega, by omega, by go_num, by go_num, by rw [List.length_append, List.length_singleton]; omega, Lib.hid ⟨hmv.below (fun k e => HO6.out.past k e) HO6.out.below HO6.out.below.size, ?_, hmv.past HO6.out.past HO6.out.below.size⟩, Lib.hid ?_⟩
            · rw [List.length_append, List.length_singleton, List.map_append]
              exact HR4.out
            · rw [← HE.out, HS.out, List.append_assoc]
              rfl
          case measure => (simp [intOf]) <;> omega
      · have hke : k = b.length := by omega
        obtain ⟨ga, cpa, ea, ca⟩ := HA.out.cell HO.out.below hil
        simp only [Value.slice.injEq] at ea
        obtain ⟨rfl, _, rfl⟩ := ea
        have xa := KA.out i
        have zi : (0 : Int) ≤ (i : Int) ∧ (i : Int) < (a.length : Int) := by omega
        have gi : ((i : Int) == (a.length : Int)) = false := by rw [Bool.eq_false_iff]; intro h; rw [beq_iff_eq] at h; omega
        have li : decide ((i : Int) < (a.length : Int)) = true := by simp; omega
        have gk : ((k : Int) == (b.length : Int)) = true := by rw [beq_iff_eq]; omega
        have lk : decide ((k : Int) < (b.length : Int)) = false := by simp; omega
        have hs := bothL_step.1 hil hke
        have HS := Lib.hid hs
        clear hs
        generalize hAv : a.getD i 0 = Av at *
        go_upto_region 8 with fail
        go_quiet (fail)
        generalize hW5 : wr.drewN nq = W5 at *
        have hbq : Below wr.heap.size wr W5 := by rw [← hW5]; exact below_drewNv (Below.refl _ _) _
        have hO5 := HO.out.same hbq
        have ca5 : W5.cell? ⟨ga, i, none⟩ = some (.int .i64 (Av : Int)) := (hbq.cell (p := ⟨ga, i, none⟩) (lt_of_cell ca)).trans ca
        have HO5 := Lib.hid hO5
        clear hbq hO5 hW5 ca
        have hrow3 : (W5.alloc (.cells #[.int .i64 (Av : Int)] 3)).ownsRow 0 3 1 u5 out.length (out.map intV) := HO5.out.row.alloc _
        go_wp2_with (at_builtin; refine wpList_append_lies rfl _ _ 27 rfl 3 i0 (.int .i64 0) 1 8 Tryz.underlying27 hi hz0 hz1 hz2 rfl (by decide) u5 out.length (out.map intV) rfl hrow3 ⟨W5.heap.size, 0, none⟩ 1 1 [.int .i64 (Av : Int)] rfl rfl (cell_one_new W5 _ _) (by simp [Value.oneCell']) (by decide) (by unfold maxLen; omega) (by omega) ?_; intro v4 W7 hrow4 hgrow4 hlies4; simp only [put_lit, List.set_cons_succ, List.set_cons_zero]; have HR4 := Lib.hid hrow4; have HG4 := Lib.hid hgrow4; have HL4 := Lib.hid hlies4; clear hrow4 hgrow4 hlies4)
        go_roundw
        case rel =>
          have hmv : Moves W5 u5 W7 v4 := (Moves.alloc W5 u5 _).trans (Moves.append HG4.out HL4.out)
          refine ⟨i + 1, k, out ++ [Av], by omega, by omega, by go_num, by go_num, by rw [List.length_append, List.length_singleton]; omega, Lib.hid ⟨hmv.below (fun k e => HO5.out.past k e) HO5.out.below HO5.out.below.size, ?_, hmv.past HO5.out.past HO5.out.below.size⟩, Lib.hid ?_⟩
          · rw [List.length_append, List.length_singleton, List.map_append]
            exact HR4.out
          · rw [← HE.out, HS.out, List.append_assoc]
            rfl
        case measure => (simp [intOf]) <;> omega
    · have hie : i = a.length := by omega
      by_cases hkl : k < b.length
      · have gi : ((i : Int) == (a.length : Int)) = true := by rw [beq_iff_eq]; omega
        have li : decide ((i : Int) < (a.length : Int)) = false := by simp; omega
        obtain ⟨gb, cpb, eb, cb⟩ := HB.out.cell HO.out.below hkl
        simp only [Value.slice.injEq] at eb
        obtain ⟨rfl, _, rfl⟩ := eb
        have xb := KB.out k
        have zk : (0 : Int) ≤ (k : Int) ∧ (k : Int) < (b.length : Int) := by omega
        have gk : ((k : Int) == (b.length : Int)) = false := by rw [Bool.eq_false_iff]; intro h; rw [beq_iff_eq] at h; omega
        have lk : decide ((k : Int) < (b.length : Int)) = true := by simp; omega
        have hs := bothL_step.2.1 hie hkl
        have HS := Lib.hid hs
        clear hs
        generalize hBv : b.getD k 0 = Bv at *
        go_upto_region 8 with fail
        go_quiet (fail)
        generalize hW5 : wr.drewN nq = W5 at *
        have hbq : Below wr.heap.size wr W5 := by rw [← hW5]; exact below_drewNv (Below.refl _ _) _
        have hO5 := HO.out.same hbq
        have cb5 : W5.cell? ⟨gb, k, none⟩ = some (.int .i64 (Bv : Int)) := (hbq.cell (p := ⟨gb, k, none⟩) (lt_of_cell cb)).trans cb
        have HO5 := Lib.hid hO5
        clear hbq hO5 hW5 cb
        go_upto_region 11 with fail
        go_quiet (fail)
        generalize hW6 : W5.drewN nq = W6 at *
        have hbq : Below W5.heap.size W5 W6 := by rw [← hW6]; exact below_drewNv (Below.refl _ _) _
        have hO6 := HO5.out.same hbq
        have cb6 : W6.cell? ⟨gb, k, none⟩ = some (.int .i64 (Bv : Int)) := (hbq.cell (p := ⟨gb, k, none⟩) (lt_of_cell cb5)).trans cb5
        have HO6 := Lib.hid hO6
        clear hbq hO6 hW6 cb5
        have hrow3 : (W6.alloc (.cells #[.int .i64 (Bv : Int)] 3)).ownsRow 0 3 1 u5 out.length (out.map intV) := HO6.out.row.alloc _
        go_wp2_with (at_builtin; refine wpList_append_lies rfl _ _ 27 rfl 3 i0 (.int .i64 0) 1 8 Tryz.underlying27 hi hz0 hz1 hz2 rfl (by decide) u5 out.length (out.map intV) rfl hrow3 ⟨W6.heap.size, 0, none⟩ 1 1 [.int .i64 (Bv : Int)] rfl rfl (cell_one_new W6 _ _) (by simp [Value.oneCell']) (by decide) (by unfold maxLen; omega) (by omega) ?_; intro v4 W7 hrow4 hgrow4 hlies4; simp only [put_lit, List.set_cons_succ, List.set_cons_zero]; have HR4 := Lib.hid hrow4; have HG4 := Lib.hid hgrow4; have HL4 := Lib.hid hlies4; clear hrow4 hgrow4 hlies4)
        go_roundw
        case rel =>
          have hmv : Moves W6 u5 W7 v4 := (Moves.alloc W6 u5 _).trans (Moves.append HG4.out HL4.out)
          refine ⟨i, k + 1, out ++ [Bv], by omega, by omega, by go_num, by go_num, by rw [List.length_append, List.length_singleton]; omega, Lib.hid ⟨hmv.below (fun k e => HO6.out.past k e) HO6.out.below HO6.out.below.size, ?_, hmv.past HO6.out.past HO6.out.below.size⟩, Lib.hid ?_⟩
          · rw [List.length_append, List.length_singleton, List.map_append]
            exact HR4.out
          · rw [← HE.out, HS.out, List.append_assoc]
            rfl
        case measure => (simp [intOf]) <;> omega
      · have hke : k = b.length := by omega
        have gi : decide ((i : Int) < (a.length : Int)) = false := by simp; omega
        have gk : decide ((k : Int) < (b.length : Int)) = false := by simp; omega
        have hfin : Hid (out = bothL a b) := Lib.hid (by
          rw [← HE.out, hie, hke, List.drop_length, List.drop_length]
          unfold bothL
          rw [List.append_nil])
        go_wp2_with fail
        go_ret
        exact ⟨u5, rfl, HO.out.below, by rw [← hfin.out]; exact HO.out.row⟩

set_option maxRecDepth 100000 in
set_option maxHeartbeats 4000000 in
theorem same_eq (a : List Nat) (va vb : Value) (w : World) (ha : RowOf w va a) (hb : RowOf w vb a) (hla : a.length ≤ 1000) :
    Calls Tryz.prog 16 #[va, vb] w fun e w' => e = .returned (.bool true) ∧ Below w.heap.size w w' := by
  obtain ⟨aa, ac, rfl⟩ := ownsRow_form ha
  obtain ⟨ba, bc, rfl⟩ := ownsRow_form hb
  have HA := Lib.hid ha
  have HB := Lib.hid hb
  clear ha hb
  go_enter Tryz.func16, Tryz.ntmps16
  go_wp2_with fail
  go_loopw [5] (fun iv wr => ∃ i : Nat, i ≤ a.length ∧ iv = .int .i64 (i : Int) ∧ Hid (Below w.heap.size w wr)) (fun iv _ => a.length - (intOf iv).toNat)
  case atStart => exact ⟨0, Nat.zero_le _, rfl, Lib.hid (Below.refl _ _)⟩
  case round =>
    obtain ⟨i, hia, rfl, HO⟩ := hrel
    have q1 : IntKind.i64.wrap ((i : Int) + 1) = (i : Int) + 1 := IntWalk.i64_in _ (by omega)
    by_cases hil : i < a.length
    · obtain ⟨ga, cpa, ea, ca⟩ := HA.out.cell HO.out hil
      simp only [Value.slice.injEq] at ea
      obtain ⟨rfl, _, rfl⟩ := ea
      obtain ⟨gb, cpb, eb, cb⟩ := HB.out.cell HO.out hil
      simp only [Value.slice.injEq] at eb
      obtain ⟨rfl, _, rfl⟩ := eb
      have zi : (0 : Int) ≤ (i : Int) ∧ (i : Int) < (a.length : Int) := by omega
      generalize a.getD i 0 = Av at *
      go_upto_region 6 with fail
      go_quiet (fail)
      go_wp2_with fail
      go_roundw
      case rel => exact ⟨i + 1, by omega, by go_num, Lib.hid (below_drewNv HO.out _)⟩
      case measure => (simp [intOf]) <;> omega
    · obtain rfl : i = a.length := by omega
      go_wp2_with fail
      go_ret
      exact ⟨rfl, HO.out⟩
end Go.Proofs.Ts
/- errors.As at a number where a *Bad is asked for; errors.Is of a number and itself; what Told makes of an error that is a number. -/
set_option linter.unusedVariables false
set_option linter.unusedSimpArgs false
namespace Go.Proofs.Ts
open Go Go.RowKit Go.Extern.Stop Go.Stop Go.Extern

theorem rl_valueOfB (b : Nat) (w : World) : (ReflectliteValue.unpack (.iface 105 (.pointer (some ⟨b, 0, none⟩)))).run Tryz.prog w = .ok (.agg #[.pointer (some ⟨5, 105, none⟩), .pointer (some ⟨w.heap.size, 0, none⟩), .int .u64 150]) (w.alloc (.cells #[.pointer (some ⟨b, 0, none⟩)] 105)) := by kernel_rfl
theorem rl_typeB (a : Addr) (w : World) : (ReflectliteValue.methodAny (ReflectliteValue.valueError "reflectlite.Value.Type" 0) (fun t _ _ _ => ReflectliteType.toType t) #[.agg #[.pointer (some ⟨5, 105, none⟩), .pointer (some a), .int .u64 150]]).run Tryz.prog w
    = .ok (.iface 222 (.agg #[.pointer (some ⟨5, 105, none⟩)])) w := by kernel_rfl
theorem rl_kindB (w : World) : ((ReflectliteType.abiMethod fun t => (fun a : Nat => Value.int IntKind.u8 (a : Int)) <$> Rtype.kind t) #[.pointer (some ⟨5, 105, none⟩)]).run Tryz.prog w = .ok (.int .u8 22) w := by kernel_rfl
theorem rl_kindP (w : World) : ((ReflectliteType.abiMethod fun t => (fun a : Nat => Value.int IntKind.u8 (a : Int)) <$> Rtype.kind t) #[.pointer (some ⟨5, 103, none⟩)]).run Tryz.prog w = .ok (.int .u8 22) w := by kernel_rfl
theorem rl_partsB (a : Addr) (w : World) : (ReflectliteValue.parts (.agg #[.pointer (some ⟨5, 105, none⟩), .pointer (some a), .int .u64 150])).run Tryz.prog w = .ok (some (105, a, 150)) w := by kernel_rfl
theorem rl_isNilB (a p : Addr) (W : World) (ha : W.cell? a = some (.pointer (some p))) :
    (ReflectliteValue.method (ReflectliteValue.valueError "reflectlite.Value.IsNil" 0) ReflectliteValue.isNil #[.agg #[.pointer (some ⟨5, 105, none⟩), .pointer (some a), .int .u64 150]]).run Tryz.prog W = .ok (.bool false) W := by
  rw [rlm]
  simp only [Sem.run_bind, rl_partsB, Result.andThen]
  simp [ReflectliteValue.isNil, loadVar, isAgg, underlying, Tryz.underlying105, ha, Result.andThen]
theorem rl_elemB (w : World) : (ReflectliteType.method ReflectliteType.elem #[.agg #[.pointer (some ⟨5, 105, none⟩)]]).run Tryz.prog w = .ok (.iface 222 (.agg #[.pointer (some ⟨5, 103, none⟩)])) w := by kernel_rfl
theorem rl_implementsP (w : World) : (ReflectliteType.relation "Implements" ReflectliteType.implements_ #[.agg #[.pointer (some ⟨5, 103, none⟩)], .iface 222 (.agg #[.pointer (some ⟨5, 69, none⟩)])]).run Tryz.prog w = .ok (.bool true) w := by kernel_rfl
theorem rl_assignableP (w : World) : (ReflectliteType.relation "AssignableTo" ReflectliteType.assignableTo #[.agg #[.pointer (some ⟨5, 33, none⟩)], .iface 222 (.agg #[.pointer (some ⟨5, 103, none⟩)])]).run Tryz.prog w = .ok (.bool false) w := by kernel_rfl

theorem rl_noAs (v : Value) (xT : TypeId) (w : World) : (Instr.typeAssert (.iface 33 v) xT 226 true).run Tryz.prog w = .ok (.tuple #[.nilIface, .bool false]) w := run_typeAssert_lacksB Tryz.underlying226 (by kernel_rfl) (by kernel_rfl) v xT w
theorem rl_noUnwrap (v : Value) (xT : TypeId) (w : World) : (Instr.typeAssert (.iface 33 v) xT 229 true).run Tryz.prog w = .ok (.tuple #[.nilIface, .bool false]) w := run_typeAssert_lacksB Tryz.underlying229 (by kernel_rfl) (by kernel_rfl) v xT w
theorem rl_noUnwraps (v : Value) (xT : TypeId) (w : World) : (Instr.typeAssert (.iface 33 v) xT 231 true).run Tryz.prog w = .ok (.tuple #[.nilIface, .bool false]) w := run_typeAssert_lacksB Tryz.underlying231 (by kernel_rfl) (by kernel_rfl) v xT w

set_option maxHeartbeats 4000000 in
theorem as_bad (k : Int) (b : Nat) (w : World) (hg : ErrIn w) :
    Calls Tryz.prog 43 #[.iface 33 (.int .i64 k), .iface 105 (.pointer (some ⟨b, 0, none⟩))] w fun ev w' => ev = .returned (.bool false) ∧ Below w.heap.size w w' := by
  have h6 := @run_callFunc_extern Tryz.prog 71 _ (fun args => ReflectliteValue.unpack (args.getD 0 (.tuple #[]))) Tryz.func71 (by kernel_rfl) (by kernel_rfl) (by kernel_rfl) (by kernel_rfl)
  have h7 := @run_callFunc_extern Tryz.prog 72 _ (ReflectliteValue.methodAny (ReflectliteValue.valueError "reflectlite.Value.Type" 0) (fun t _ _ _ => ReflectliteType.toType t)) Tryz.func72 (by kernel_rfl) (by kernel_rfl) (by kernel_rfl) (by kernel_rfl)
  have h8 := @run_callFunc_extern Tryz.prog 73 _ (ReflectliteValue.method (ReflectliteValue.valueError "reflectlite.Value.IsNil" 0) ReflectliteValue.isNil) Tryz.func73 (by kernel_rfl) (by kernel_rfl) (by kernel_rfl) (by kernel_rfl)
  have h27 := @run_callFunc_extern Tryz.prog 203 _ (ReflectliteType.abiMethod fun t => do pure (.int .u8 (← Rtype.kind t))) Tryz.func203 (by kernel_rfl) (by kernel_rfl) (by kernel_rfl) (by kernel_rfl)
  have h37 := @run_callFunc_extern Tryz.prog 226 _ (ReflectliteType.method ReflectliteType.elem) Tryz.func226 (by kernel_rfl) (by kernel_rfl) (by kernel_rfl) (by kernel_rfl)
  have h38 := @run_callFunc_extern Tryz.prog 227 _ (ReflectliteType.relation "Implements" ReflectliteType.implements_) Tryz.func227 (by kernel_rfl) (by kernel_rfl) (by kernel_rfl) (by kernel_rfl)
  have h10 := @run_callFunc_extern Tryz.prog 75 _ ReflectliteType.typeOf Tryz.func75 (by kernel_rfl) (by kernel_rfl) (by kernel_rfl) (by kernel_rfl)
  have h35 := @run_callFunc_extern Tryz.prog 224 _ (ReflectliteType.relation "AssignableTo" ReflectliteType.assignableTo) Tryz.func224 (by kernel_rfl) (by kernel_rfl) (by kernel_rfl) (by kernel_rfl)
  have h11 := @run_callFunc_extern Tryz.prog 103 _ (ReflectliteValue.method (ReflectliteValue.valueError "reflectlite.Value.Elem" 0) ReflectliteValue.elem) Tryz.func103 (by kernel_rfl) (by kernel_rfl) (by kernel_rfl) (by kernel_rfl)
  have h12 := @run_callFunc_extern Tryz.prog 104 _ ReflectliteValue.set Tryz.func104 (by kernel_rfl) (by kernel_rfl) (by kernel_rfl) (by kernel_rfl)
  have tO := rl_typeOfN
  have mA := rl_methodAssignable
  have a25 := rl_assignableP
  have f6 := rl_valueOfB
  have f7 := rl_typeB
  have mK := rl_methodKind
  have mE := rl_methodElem
  have mI := rl_methodImplements
  have k27 := rl_kindB
  have k25 := rl_kindP
  have e27 := rl_elemB
  have i25 := rl_implementsP
  have n8 := rl_isNilB ⟨w.heap.size, 0, none⟩ ⟨b, 0, none⟩ ((w.alloc (.cells #[.pointer (some ⟨b, 0, none⟩)] 105)).alloc (.cells #[.pointer (some ⟨5, 105, none⟩), .pointer (some ⟨w.heap.size, 0, none⟩), .int .u64 150] 169)) (by simp)
  have hlt : 0 < w.heap.size := lt_of_cell hg
  unfold ErrIn at hg
  have hg2 : ((w.alloc (.cells #[.pointer (some ⟨b, 0, none⟩)] 105)).alloc (.cells #[.pointer (some ⟨5, 105, none⟩), .pointer (some ⟨w.heap.size, 0, none⟩), .int .u64 150] 169)).cell? ⟨0, 0, none⟩ = some (.iface 222 (.agg #[.pointer (some ⟨5, 69, none⟩)])) := by
    rw [World.cell?_alloc_lt _ _ ⟨0, 0, none⟩ (by simp), World.cell?_alloc_lt _ _ ⟨0, 0, none⟩ hlt]; exact hg
  have n1 := rl_noAs
  have n2 := rl_noUnwrap
  have n3 := rl_noUnwraps
  go_enter Tryz.func43, Tryz.ntmps43
  go_wp2
  refine wp_loop_rounds 1 ?_
  rw [rounds_succ]
  go_wp2
  go_ret
  exact ⟨rfl, (((Below.refl _ w).alloc (Nat.le_refl _) _).alloc (by simp) _).alloc (by simp; omega) _⟩

end Go.Proofs.Ts
/- errors.Is of a number and itself; what Told makes of an error that is a number. -/
set_option linter.unusedVariables false
set_option linter.unusedSimpArgs false
namespace Go.Proofs.Ts
open Go Go.RowKit Go.Extern.Stop Go.Stop Go.Extern

theorem rl_comparableN (w : World) : (ReflectliteType.method (fun t => do Rtype.noPackHeld "Comparable" t; (fun a => Value.bool a.comparable) <$> typeInfo t) #[.agg #[.pointer (some ⟨5, 33, none⟩)]]).run Tryz.prog w = .ok (.bool true) w := by kernel_rfl

theorem errno_comparable : (Tryz.prog.info? 33).map (·.comparable) = some true := by kernel_rfl
theorem run_eql_iface_int {P : Program} {ti tp : TypeId} {ms : Array (String × TypeId)} {i : TypeInfo} {kk : IntKind} (k : Int) (w : World) (hi : P.underlying ti = some (.interface ms)) (hp : P.underlying tp = some (.int kk)) (hinfo : P.info? tp = some i) (hcomp : i.comparable = true) :
    (binOp .eql ti (.iface tp (.int .i64 k)) (.iface tp (.int .i64 k))).run P w = .ok (.bool true) w := by
  have h : ∀ d : Nat, (Op.equalIn (d + 2) ti (.iface tp (.int .i64 k)) (.iface tp (.int .i64 k))).run P w = .ok true w := fun d => by
    simp [Op.equalIn, run_underlying hi, run_underlying hp, typeInfo, hinfo, hcomp]
  simp only [binOp]
  simp [Op.equal, Op.maxDepth, h 9998]
theorem eq_errno (k : Int) (w : World) : (binOp BinOp.eql 69 (.iface 33 (.int .i64 k)) (.iface 33 (.int .i64 k))).run Tryz.prog w = .ok (.bool true) w := by
  obtain ⟨i, hi, hc⟩ := Option.map_eq_some_iff.1 errno_comparable
  exact run_eql_iface_int k w Tryz.underlying69 Tryz.underlying33 hi hc

set_option maxRecDepth 100000 in
set_option maxHeartbeats 4000000 in
/-- A number is itself. -/
theorem is_self (k : Int) (w : World) : Calls Tryz.prog 44 #[.iface 33 (.int .i64 k), .iface 33 (.int .i64 k)] w fun ev w' => ev = .returned (.bool true) ∧ Below w.heap.size w w' := by
  have h10 := @run_callFunc_extern Tryz.prog 75 _ ReflectliteType.typeOf Tryz.func75 (by kernel_rfl) (by kernel_rfl) (by kernel_rfl) (by kernel_rfl)
  have h35 := @run_callFunc_extern Tryz.prog 225 _ (ReflectliteType.method (fun t => do Rtype.noPackHeld "Comparable" t; pure (.bool (← typeInfo t).comparable))) Tryz.func225 (by kernel_rfl) (by kernel_rfl) (by kernel_rfl) (by kernel_rfl)
  have tO := rl_typeOfN
  have mC := rl_methodComparable
  have cN := rl_comparableN
  have eE := eq_errno
  go_enter Tryz.func44, Tryz.ntmps44
  go_wp2
  refine wp_loop_rounds 1 ?_
  rw [rounds_succ]
  go_wp2
  go_ret
  exact ⟨rfl, Below.refl _ _⟩

set_option maxRecDepth 100000 in
set_option maxHeartbeats 4000000 in
/-- An error by its number is told as that number, and no place. -/
theorem told_errno (k : Int) (w : World) (hg : ErrIn w) : Calls Tryz.prog 32 #[.iface 33 (.int .i64 k)] w fun e w' => e = .returned (.tuple #[.int .i64 k, .int .i64 (-1)]) ∧ Below w.heap.size w w' := by
  have HG := Lib.hid hg
  clear hg
  go_enter Tryz.func32, Tryz.ntmps32
  go_upto_region 5 with fail
  have hbe : Below w.heap.size w ((w.alloc (.cells #[.pointer none] 103)).alloc (.cells #[.int .i64 0] 33)) := ((Below.refl _ w).alloc (Nat.le_refl _) _).alloc (by simp) _
  have hb5 := heap_alloc_new (w.alloc (.cells #[.pointer none] 103)) (.cells #[.int .i64 0] 33)
  rw [World.size_alloc] at hb5
  generalize ((w.alloc (.cells #[.pointer none] 103)).alloc (.cells #[.int .i64 0] 33)) = W at *
  have HBE := Lib.hid hbe
  have HB5 := Lib.hid hb5
  clear hbe hb5
  go_upto_region 7 with (go_at_call 43; refine (as_bad k w.heap.size W (HG.out.below HBE.out)).mono ?_; rintro e w1 ⟨rfl, hb1⟩)
  have hb51 := (hb1.block _ (lt_of_heap HB5.out)).trans HB5.out
  have hbw1 : Below w.heap.size w w1 := HBE.out.trans (hb1.mono HBE.out.size)
  have hit := as_hit k (w.heap.size + 1) _ w1 (HG.out.below hbw1) (cell_block (i := 0) hb51) (free_block hb51)
  have HIT := Lib.hid hit
  have HBW1 := Lib.hid hbw1
  have HB51 := Lib.hid hb51
  clear hit hbw1 hb1 hb51
  go_wp2_with (first
    | (go_at_call 43; refine HIT.out.mono ?_; rintro e w2 ⟨rfl, w3, hb3, rfl⟩; have hb53 := (hb3.block _ (lt_of_heap HB51.out)).trans HB51.out; have cE : (w3.setCell ⟨w.heap.size + 1, 0, none⟩ (.int .i64 k)).cell? ⟨w.heap.size + 1, 0, none⟩ = some (.int .i64 k) := World.cell?_setCell_same' _ _ _ (by rw [cell_block hb53]; rfl); have HB3 := Lib.hid hb3; clear hb3 hb53)
    | (go_at_call 44; refine (is_self k _).mono ?_; rintro e w4 ⟨rfl, hb4⟩; have cE4 := (hb4.cell (p := ⟨w.heap.size + 1, 0, none⟩) (lt_of_cell cE)).trans cE; have HB4 := Lib.hid hb4; clear hb4))
  go_ret2
  have h1 : Below w.heap.size w w3 := HBW1.out.trans (HB3.out.mono HBW1.out.size)
  have h2 : Below w.heap.size w (w3.setCell ⟨w.heap.size + 1, 0, none⟩ (.int .i64 k)) := h1.setCell (p := ⟨w.heap.size + 1, 0, none⟩) (by simp) _
  exact ⟨rfl, h2.trans (HB4.out.mono h2.size)⟩
end Go.Proofs.Ts
/- What is asked wrongly: the error comes back, as a number. -/
set_option linter.unusedVariables false
set_option linter.unusedSimpArgs false
namespace Go.Proofs.Ts
open Go Go.RowKit

set_option maxRecDepth 100000 in
set_option maxHeartbeats 2000000 in
theorem terms_err (B : Nat) (q : Asked) (k : Int) (most sb : Nat) (D : List (List (List UInt8))) (kn : Value) (db : Nat) (R : Nat → Prop) (Λ : Nat → List Word) (ρ : Nat → Nat) (Dd : List DS) (pv : Value) (ps : List Value) (w : World)
    (hB : B ≤ w.heap.size) (hsb : B ≤ sb) (hseg : SegAt w sb D kn db R Λ ρ Dd pv ps) (hkn : KnownIs B w kn) (st : Nat) (hst : q.states = st) (hst1 : 1 ≤ st ∧ st ≤ 400) (hmost : most ≤ 2000000) (hcomp : CompileOk w q) (herr : errOf q = some k) :
    Calls Tryz.prog 41 #[ptrV sb, askV q, .int .i64 st, .int .i64 most] w fun e w' => ∃ kn', e = .returned (.tuple #[.slice none 0 0, errnoV k]) ∧ SegAt w' sb D kn' db R Λ ρ Dd pv ps ∧ KnownIs B w' kn' ∧ Below B w w' ∧ Cells w w' := by
  have hsbl := lt_of_heap hseg.1
  have g1 : decide ((st : Int) < 1) = false := by simp <;> omega
  have g2 : decide ((400 : Int) < (st : Int)) = false := by simp <;> omega
  have g3 : decide ((most : Int) < 0) = false := by simp
  have HSEG := Lib.hid hseg
  have HKN := Lib.hid hkn
  clear hseg hkn
  unfold ptrV askV strV
  go_enter Tryz.func41, Tryz.ntmps41
  go_wp2_with fail
  clear g1 g2 g3
  have hal : Below w.heap.size w ((w.alloc (.cells #[.int .i64 q.kind, .string ⟨q.a.toArray⟩, .string ⟨q.b.toArray⟩, .int .i64 q.n] 37)).alloc (.cells #[.int .i64 most] 3)) := ((Below.refl _ w).alloc (Nat.le_refl _) _).alloc (by simp) _
  generalize ((w.alloc (.cells #[.int .i64 q.kind, .string ⟨q.a.toArray⟩, .string ⟨q.b.toArray⟩, .int .i64 q.n] 37)).alloc (.cells #[.int .i64 most] 3)) = w2 at *
  have hseg2 := HSEG.out.below hal
  have hplan := plan_any B q sb D.length db pv kn w2 (Nat.le_trans hB hal.size) hsb hseg2.1 (HKN.out.below hal) (hcomp.kept (Cells.below hal))
  have HSEG2 := Lib.hid hseg2
  have HAL := Lib.hid hal
  clear hseg2 hal
  rw [hst] at hplan
  unfold ptrV askV strV at hplan
  refine hplan.mono ?_
  clear hplan
  rintro e w1 ⟨pb, kn', rfl, hpf, hce, hbe, hsg1, hkn1⟩
  obtain ⟨fv, hpb⟩ := hpf.errs k herr
  have hseg1 := HSEG2.out.kept hce hsg1
  have p1 : w1.cell? ⟨pb, 1, none⟩ = some (errnoV k) := cell_block hpb
  have HSEG1 := Lib.hid hseg1
  have HKN1 := Lib.hid hkn1
  have HBE := Lib.hid hbe
  have HCE := Lib.hid ((Cells.below HAL.out).trans hce)
  clear hpf hseg1 hkn1 hbe hce HSEG2 hpb hsg1
  unfold errnoV at *
  go_wp2_with fail
  go_quiet (fail)
  go_wp2_with fail
  go_ret2
  have hbq : Below w1.heap.size w1 (w1.drewN nq) := below_drewNv (Below.refl _ _) _
  exact ⟨kn', rfl, HSEG1.out.below hbq, HKN1.out.below hbq, ((HAL.out.mono hB).trans HBE.out).trans (hbq.mono (by have := HBE.out.size; have := HAL.out.size; omega)), HCE.out.trans (Cells.below hbq)⟩

set_option maxRecDepth 100000 in
set_option maxHeartbeats 2000000 in
theorem search_err (B : Nat) (q : Asked) (k : Int) (most sb : Nat) (D : List (List (List UInt8))) (kn : Value) (w : World)
    (hB : B ≤ w.heap.size) (hsb : B ≤ sb) (hseg : SegIs w sb D kn) (hkn : KnownIs B w kn) (st : Nat) (hst : q.states = st) (hst1 : 1 ≤ st ∧ st ≤ 400) (hmost : most ≤ 2000000) (hcomp : CompileOk w q) (herr : errOf q = some k) :
    Calls Tryz.prog 31 #[ptrV sb, askV q, .int .i64 st, .int .i64 most] w fun e w' => ∃ kn', e = .returned (.tuple #[.slice none 0 0, errnoV k]) ∧ SegIs w' sb D kn' ∧ KnownIs B w' kn' ∧ Below B w w' ∧ Cells w w' := by
  obtain ⟨db, R, Λ, ρ, Dd, pv, ps, hat⟩ := hseg.at
  have HAT := Lib.hid hat
  have HKN := Lib.hid hkn
  clear hseg hat hkn
  unfold ptrV askV strV
  go_enter Tryz.func31, Tryz.ntmps31
  go_wp2_with fail
  have hal : Below w.heap.size w (w.alloc (.cells #[.int .i64 q.kind, .string ⟨q.a.toArray⟩, .string ⟨q.b.toArray⟩, .int .i64 q.n] 37)) := (Below.refl _ w).alloc (Nat.le_refl _) _
  have HAL := Lib.hid hal
  clear hal
  generalize (w.alloc (.cells #[.int .i64 q.kind, .string ⟨q.a.toArray⟩, .string ⟨q.b.toArray⟩, .int .i64 q.n] 37)) = w2 at *
  have hterms := terms_err B q k most sb D kn db R Λ ρ Dd pv ps w2 (Nat.le_trans hB HAL.out.size) hsb (HAT.out.below HAL.out) (HKN.out.below HAL.out) st hst hst1 hmost (hcomp.kept (Cells.below HAL.out)) herr
  unfold ptrV askV strV at hterms
  refine hterms.mono ?_
  clear hterms
  rintro e w3 ⟨kn', rfl, hat3, hkn3, hb3, hc3⟩
  unfold errnoV
  go_wp2_with fail
  go_ret2
  exact ⟨kn', rfl, hat3.is, hkn3, (HAL.out.mono hB).trans hb3, (Cells.below HAL.out).trans hc3⟩

set_option maxRecDepth 100000 in
set_option maxHeartbeats 2000000 in
theorem plainSearch_err (B : Nat) (q : Asked) (k : Int) (most sb : Nat) (D : List (List (List UInt8))) (w : World) (hg : ErrIn w) (hgB : 0 < B)
    (hB : B ≤ w.heap.size) (hseg : Seg B w sb D) (st : Nat) (hst : q.states = st) (hst1 : 1 ≤ st ∧ st ≤ 400) (hmost : most ≤ 2000000) (hcomp : CompileOk w q) (herr : errOf q = some k) :
    Calls Tryz.prog 17 #[ptrV sb, askV q, .int .i64 st, .int .i64 most] w fun e w' => e = .returned (.tuple #[.slice none 0 0, .int .i64 k, .int .i64 (-1)]) ∧ Seg B w' sb D ∧ Below B w w' ∧ Cells w w' := by
  have HS := Lib.hid hseg
  have HG := Lib.hid hg
  clear hseg hg
  unfold ptrV askV strV
  go_enter Tryz.func17, Tryz.ntmps17
  go_wp2_with fail
  have hal : Below w.heap.size w (w.alloc (.cells #[.int .i64 q.kind, .string ⟨q.a.toArray⟩, .string ⟨q.b.toArray⟩, .int .i64 q.n] 37)) := (Below.refl _ w).alloc (Nat.le_refl _) _
  have HAL := Lib.hid hal
  clear hal
  generalize (w.alloc (.cells #[.int .i64 q.kind, .string ⟨q.a.toArray⟩, .string ⟨q.b.toArray⟩, .int .i64 q.n] 37)) = w2 at *
  obtain ⟨hsb, kn, hs2, hk2⟩ := HS.out.below HAL.out
  have hs := search_err B q k most sb D kn w2 (Nat.le_trans hB HAL.out.size) hsb hs2 hk2 st hst hst1 hmost (hcomp.kept (Cells.below HAL.out)) herr
  unfold ptrV askV strV at hs
  refine hs.mono ?_
  clear hs hs2 hk2
  rintro e w3 ⟨kn', rfl, hs3, hk3, hb3, hc3⟩
  have hbw : Below B w w3 := (HAL.out.mono hB).trans hb3
  have HC3 := Lib.hid hc3
  have HS3 : Hid (Seg B w3 sb D) := Lib.hid ⟨hsb, kn', hs3, hk3⟩
  have HBW := Lib.hid hbw
  have hg3 : ErrIn w3 := (World.cell?_of_block (a := ⟨0, 0, none⟩) (hbw.block _ hgB)).trans HG.out
  have HG3 := Lib.hid hg3
  clear hs3 hk3 hbw hg3 hb3 hc3
  unfold errnoV
  go_wp2_with fail
  refine (told_errno k w3 HG3.out).mono ?_
  rintro e w4 ⟨rfl, hb4⟩
  have HB4 := Lib.hid hb4
  clear hb4
  go_wp2_with fail
  go_ret3
  exact ⟨rfl, HS3.out.below HB4.out, HBW.out.trans (HB4.out.mono (Nat.le_trans hB HBW.out.size)), ((Cells.below HAL.out).trans HC3.out).trans (Cells.below HB4.out)⟩

set_option maxRecDepth 100000 in
set_option maxHeartbeats 2000000 in
theorem ask_err (B : Nat) (kind n : Int) (a b : List UInt8) (k : Int) (hk0 : k ≠ 0) (sb : Nat) (D : List (List (List UInt8))) (w : World) (hg : ErrIn w) (hgB : 0 < B)
    (hB : B ≤ w.heap.size) (hseg : Seg B w sb D) (hcomp : CompileOk w ⟨kind, a, b, n, 400⟩) (herr : errOf ⟨kind, a, b, n, 400⟩ = some k) :
    Calls Tryz.prog 14 #[ptrV sb, .int .i64 kind, strV a, strV b, .int .i64 n] w fun e w' => e = .returned (.tuple #[.slice none 0 0, .bool false]) ∧ Seg B w' sb D ∧ Below B w w' ∧ Cells w w' := by
  have HS := Lib.hid hseg
  have HG := Lib.hid hg
  clear hseg hg
  unfold ptrV strV
  go_enter Tryz.func14, Tryz.ntmps14
  go_wp2_with fail
  have hs := plainSearch_err B ⟨kind, a, b, n, 400⟩ k 1048576 sb D w HG.out hgB hB HS.out 400 rfl (by omega) (by omega) hcomp herr
  unfold ptrV askV strV at hs
  refine hs.mono ?_
  clear hs
  rintro e w3 ⟨rfl, hs3, hb3, hc3⟩
  have hkz : (k == 0) = false := by rw [Bool.eq_false_iff]; intro h; exact hk0 (by rwa [beq_iff_eq] at h)
  go_wp2_with fail
  go_ret2
  exact ⟨rfl, hs3, hb3, hc3⟩
end Go.Proofs.Ts
/- The walk of Wider. -/
set_option linter.unusedVariables false
set_option linter.unusedSimpArgs false
namespace Go.Proofs.Ts
open Go Go.RowKit

theorem RowOf.cells {w w' : World} {v : Value} {a : List Nat} (h : RowOf w v a) (hc : Cells w w') : RowOf w' v a := ownsRow_typed h fun k cs r hk => hc.2 k cs _ r hk (by decide)
theorem RowOf.below {w w' : World} {v : Value} {a : List Nat} (h : RowOf w v a) (hb : Below w.heap.size w w') : RowOf w' v a := ownsRow_block h fun k e => hb.block k (h.lt k e).2
/-- What the automaton of nearness reads. -/
def nearAcc (x : List UInt8) (n : Nat) : List UInt8 → Bool := accA (nstep (runesR ⟨x.toArray⟩) n) (nends (runesR ⟨x.toArray⟩) n) nstart
theorem nearAcc_mono (x : List UInt8) {n m : Nat} (h : n ≤ m) (u : List UInt8) (hu : nearAcc x n u = true) : nearAcc x m u = true := near_mono h u nstart hu
theorem size_of (x : List UInt8) : ByteArray.size ⟨x.toArray⟩ = x.length := by simp [ByteArray.size]
theorem nearAcc_zero {x : List UInt8} (h : x.length ≤ 40) (hv : Lib.validD x = true) : nearAcc x 0 = fun u => decide (u = x) := by
  have hv' : Lib.validD (ByteArray.mk x.toArray).data.toList = true := by simpa using hv
  obtain ⟨h1, h2, h3, _⟩ := runesR_of hv'
  have hs := size_of x
  funext u
  rw [Bool.eq_iff_iff, decide_eq_true_eq]
  have := near_zero h1 (by omega) u
  unfold nearAcc
  rw [this, ← h2]
theorem accOf_near {x b : List UInt8} {n : Nat} {st : Int} (h : x.length ≤ 40) (hv : Lib.validD x = true) (hn : n ≤ 2) : accOf ⟨6, x, b, n, st⟩ = some (nearAcc x n) := by
  have hs := size_of x
  have hb : nearBad ⟨x.toArray⟩ n = none := by
    unfold nearBad
    rw [if_neg (by omega), if_neg (by omega), if_pos (by simpa using hv)]
  have h61 : ¬ (6 : Int) = 1 := by decide
  have h62 : ¬ (6 : Int) = 2 := by decide
  simp only [accOf, if_pos h, if_neg h61, if_neg h62, hb, and_self, if_true]
  rfl
theorem errOf_near {x b : List UInt8} {n : Nat} {st : Int} (h : x.length ≤ 40) (hv : Lib.validD x = false) (hn : n ≤ 2) : errOf ⟨6, x, b, n, st⟩ = some 8 := by
  have hs := size_of x
  have hb : nearBad ⟨x.toArray⟩ n = some 8 := by
    unfold nearBad
    rw [if_neg (by omega), if_neg (by omega), if_neg (by simpa using hv)]
  simp only [errOf, h, and_self, if_true, hb]

set_option maxRecDepth 100000 in
set_option maxHeartbeats 4000000 in
theorem wider_any (docs : List ByteArray) (x : List UInt8) (v : Value) (w : World) (hT : TabsIn w) (hE : ErrIn w) (hv : StrsIs w v docs) (hl : docs.length ≤ 9223372036854775807) (hs : x.length ≤ 9223372036854775807) :
    Calls Tryz.prog 6 #[v, .string ⟨x.toArray⟩] w fun e w' => e = .returned (.bool true) ∧ Below w.heap.size w w' := by
  obtain ⟨va, vc, rfl, hc⟩ := id hv
  have hsz := size_of x
  have h0 : 0 < w.heap.size := lt_of_cell hE
  have HV := Lib.hid hv
  have HT := Lib.hid hT
  have HE := Lib.hid hE
  clear hv hc hT hE
  go_enter Tryz.func6, Tryz.ntmps6
  go_wp2_with fail
  refine (keepBuild_any docs _ w HV.out hl).mono ?_
  rintro e w1 ⟨hb1, hres⟩
  have HB1 := Lib.hid hb1
  clear hb1
  rcases hres with ⟨_, rfl⟩ | ⟨hsm, sb, rfl, hs1⟩
  · go_wp2_with fail
    go_ret
    exact ⟨rfl, HB1.out⟩
  · have hparts : docs.length ≤ 48 := by
      unfold smallW at hsm
      simp at hsm
      exact hsm.1
    have HS1 := Lib.hid hs1
    clear hs1 hsm
    unfold ptrV
    by_cases h40 : 40 < x.length
    · have g1 : decide ((40 : Int) < (x.length : Int)) = true := by simp; omega
      go_wp2_with fail
      go_ret
      exact ⟨rfl, HB1.out⟩
    · have g1 : decide ((40 : Int) < (x.length : Int)) = false := by simp; omega
      obtain ⟨D, hD⟩ : ∃ D, D = docs.map wordsB := ⟨_, rfl⟩
      have hDl : D.length ≤ 48 := by rw [hD]; simpa using hparts
      rw [← hD] at HS1
      clear hD
      go_upto_region 6 with fail
      cases hvd : Lib.validD x with
      | false =>
        have he1 := ask_err w.heap.size 6 0 x [] 8 (by omega) sb D w1 (HE.out.below HB1.out) h0 HB1.out.size HS1.out (compile_six (by omega) (HT.out.below HB1.out)) (errOf_near (n := 0) (by omega) hvd (by omega))
        unfold ptrV strV at he1
        have HE1 := Lib.hid he1
        clear he1
        go_upto_region 7 with (go_at_call 14; refine HE1.out.mono ?_; rintro e w2 ⟨rfl, hs2, hb2, hc2⟩)
        have HB2 : Hid (Below w.heap.size w w2) := Lib.hid (HB1.out.trans hb2)
        have he2 := ask_err w.heap.size 6 1 x [] 8 (by omega) sb D w2 (HE.out.below HB2.out) h0 HB2.out.size hs2 (compile_six (by omega) (HT.out.below HB2.out)) (errOf_near (n := 1) (by omega) hvd (by omega))
        unfold ptrV strV at he2
        have HE2 := Lib.hid he2
        clear he2 hs2 hb2 hc2
        go_upto_region 8 with (go_at_call 14; refine HE2.out.mono ?_; rintro e w3 ⟨rfl, hs3, hb3, hc3⟩)
        have HB3 : Hid (Below w.heap.size w w3) := Lib.hid (HB2.out.trans hb3)
        have he3 := ask_err w.heap.size 6 2 x [] 8 (by omega) sb D w3 (HE.out.below HB3.out) h0 HB3.out.size hs3 (compile_six (by omega) (HT.out.below HB3.out)) (errOf_near (n := 2) (by omega) hvd (by omega))
        unfold ptrV strV at he3
        have HE3 := Lib.hid he3
        clear he3 hs3 hb3 hc3
        go_upto_region 12 with (go_at_call 14; refine HE3.out.mono ?_; rintro e w4 ⟨rfl, hs4, hb4, hc4⟩)
        have HB4 : Hid (Below w.heap.size w w4) := Lib.hid (HB3.out.trans hb4)
        have he4 := plainSearch_err w.heap.size ⟨6, x, [], 0, 1⟩ 8 1048576 sb D w4 (HE.out.below HB4.out) h0 HB4.out.size hs4 1 rfl (by omega) (by omega) (compile_six (by omega) (HT.out.below HB4.out)) (errOf_near (n := 0) (by omega) hvd (by omega))
        unfold ptrV askV strV at he4
        have HE4 := Lib.hid he4
        clear he4 hs4 hb4 hc4
        go_wp2_with (go_at_call 17; refine HE4.out.mono ?_; rintro e w5 ⟨rfl, hs5, hb5, hc5⟩)
        go_ret
        exact ⟨rfl, HB4.out.trans hb5⟩
      | true =>
        have he1 := ask_any w.heap.size 6 0 x [] _ sb D w1 HB1.out.size HS1.out (by omega) (compile_six (by omega) (HT.out.below HB1.out)) (accOf_near (n := 0) (by omega) hvd (by omega))
        unfold ptrV strV at he1
        have HE1 := Lib.hid he1
        clear he1
        go_upto_region 7 with (go_at_call 14; refine HE1.out.mono ?_; rintro e w2 ⟨oa, rfl, hs2, hb2, hc2, hr2⟩)
        have HB2 : Hid (Below w.heap.size w w2) := Lib.hid (HB1.out.trans hb2)
        have RA2 : Hid (RowOf w2 oa (docsOf D (nearAcc x 0))) := Lib.hid hr2
        have he2 := ask_any w.heap.size 6 1 x [] _ sb D w2 HB2.out.size hs2 (by omega) (compile_six (by omega) (HT.out.below HB2.out)) (accOf_near (n := 1) (by omega) hvd (by omega))
        unfold ptrV strV at he2
        have HE2 := Lib.hid he2
        clear he2 hs2 hb2 hc2 hr2
        go_upto_region 8 with (go_at_call 14; refine HE2.out.mono ?_; rintro e w3 ⟨ob, rfl, hs3, hb3, hc3, hr3⟩)
        have HB3 : Hid (Below w.heap.size w w3) := Lib.hid (HB2.out.trans hb3)
        have RA3 : Hid (RowOf w3 oa (docsOf D (nearAcc x 0))) := Lib.hid (RA2.out.cells hc3)
        have RB3 : Hid (RowOf w3 ob (docsOf D (nearAcc x 1))) := Lib.hid hr3
        have he3 := ask_any w.heap.size 6 2 x [] _ sb D w3 HB3.out.size hs3 (by omega) (compile_six (by omega) (HT.out.below HB3.out)) (accOf_near (n := 2) (by omega) hvd (by omega))
        unfold ptrV strV at he3
        have HE3 := Lib.hid he3
        clear he3 hs3 hb3 hc3 hr3
        go_upto_region 14 with (go_at_call 14; refine HE3.out.mono ?_; rintro e w4 ⟨oc, rfl, hs4, hb4, hc4, hr4⟩)
        have HB4 : Hid (Below w.heap.size w w4) := Lib.hid (HB3.out.trans hb4)
        have RA4 : Hid (RowOf w4 oa (docsOf D (nearAcc x 0))) := Lib.hid (RA3.out.cells hc4)
        have RB4 : Hid (RowOf w4 ob (docsOf D (nearAcc x 1))) := Lib.hid (RB3.out.cells hc4)
        have RC4 : Hid (RowOf w4 oc (docsOf D (nearAcc x 2))) := Lib.hid hr4
        have he4 := ask_any w.heap.size 1 0 x [] (fun u => decide (u = x)) sb D w4 HB4.out.size hs4 (by omega) (compile_one (by omega)) (by simp [accOf]; omega)
        unfold ptrV strV at he4
        rw [← nearAcc_zero (by omega) hvd] at he4
        have HE4 := Lib.hid he4
        clear he4 hs4 hb4 hc4 hr4
        go_upto_region 15 with (go_at_call 14; refine HE4.out.mono ?_; rintro e w5 ⟨ot, rfl, hs5, hb5, hc5, hr5⟩)
        have HB5 : Hid (Below w.heap.size w w5) := Lib.hid (HB4.out.trans hb5)
        have ra5 := RA4.out.cells hc5
        have rb5 := RB4.out.cells hc5
        have rc5 := RC4.out.cells hc5
        have rt5 : RowOf w5 ot (docsOf D (nearAcc x 0)) := hr5
        have la := docsOf_len D (nearAcc x 0)
        have lb := docsOf_len D (nearAcc x 1)
        have lc := docsOf_len D (nearAcc x 2)
        have xa := docsOf_lt D (nearAcc x 0)
        have xb := docsOf_lt D (nearAcc x 1)
        have xc := docsOf_lt D (nearAcc x 2)
        have hbo := both_any _ _ _ _ w5 ra5 rb5 (by omega) (by omega) (fun y hy => by have := xa y hy; omega) (fun y hy => by have := xb y hy; omega)
        rw [docs_both D (nearAcc_mono x (by omega : 0 ≤ 1))] at hbo
        have RA5 := Lib.hid ra5
        have RB5 := Lib.hid rb5
        have RC5 := Lib.hid rc5
        have RT5 := Lib.hid rt5
        have HBO := Lib.hid hbo
        have XB := Lib.hid xb
        have XC := Lib.hid xc
        clear hbo ra5 rb5 rc5 rt5 hs5 hb5 hc5 hr5 xa xb xc
        go_upto_region 16 with (go_at_call 18; refine HBO.out.mono ?_; rintro e w6 ⟨ou, rfl, hb6, ru6⟩)
        have hbp := both_any _ _ _ _ w6 (RB5.out.below hb6) (RC5.out.below hb6) (by omega) (by omega) (fun y hy => by have := XB.out y hy; omega) (fun y hy => by have := XC.out y hy; omega)
        rw [docs_both D (nearAcc_mono x (by omega : 1 ≤ 2))] at hbp
        have HBP := Lib.hid hbp
        have HB6 := Lib.hid hb6
        have RU6 := Lib.hid ru6
        clear hbp hb6 ru6
        go_upto_region 17 with (go_at_call 18; refine HBP.out.mono ?_; rintro e w7 ⟨ov, rfl, hb7, rv7⟩)
        have hb57 : Below w5.heap.size w5 w7 := HB6.out.trans (hb7.mono HB6.out.size)
        have hs1 := same_eq _ _ _ w7 (RT5.out.below hb57) (RA5.out.below hb57) (by omega)
        have HS1' := Lib.hid hs1
        have HB57 := Lib.hid hb57
        have HB7 := Lib.hid hb7
        have RV7 := Lib.hid rv7
        clear hs1 hb57 hb7 rv7
        go_upto_region 18 with (go_at_call 16; refine HS1'.out.mono ?_; rintro e w8 ⟨rfl, hb8⟩)
        have hb68 : Below w6.heap.size w6 w8 := HB7.out.trans (hb8.mono HB7.out.size)
        have hb58 : Below w5.heap.size w5 w8 := HB57.out.trans (hb8.mono HB57.out.size)
        have hs2 := same_eq _ _ _ w8 (RU6.out.below hb68) (RB5.out.below hb58) (by omega)
        have HS2 := Lib.hid hs2
        have HB8 := Lib.hid hb8
        have HB58 := Lib.hid hb58
        clear hs2 hb68 hb58 hb8
        go_upto_region 19 with (go_at_call 16; refine HS2.out.mono ?_; rintro e w9 ⟨rfl, hb9⟩)
        have hb79 : Below w7.heap.size w7 w9 := HB8.out.trans (hb9.mono HB8.out.size)
        have hb59 : Below w5.heap.size w5 w9 := HB58.out.trans (hb9.mono HB58.out.size)
        have hs3 := same_eq _ _ _ w9 (RV7.out.below hb79) (RC5.out.below hb59) (by omega)
        have HS3 := Lib.hid hs3
        have HB59 := Lib.hid hb59
        clear hs3 hb79 hb59 hb9
        go_wp2_with (go_at_call 16; refine HS3.out.mono ?_; rintro e w10 ⟨rfl, hb10⟩)
        go_ret
        refine ⟨rfl, HB5.out.trans ((HB59.out.trans (hb10.mono HB59.out.size)).mono HB5.out.size)⟩
end Go.Proofs.Ts
/- Suggest: the walk of its code. Conditions: those that each theorem names. -/
set_option linter.unusedVariables false
set_option linter.unusedSimpArgs false
namespace Go.Proofs.Ts
open Go Go.RowKit

/-- What Suggest has met at the distances below j. -/
def metTo (T : List (List UInt8)) (x : List UInt8) (j : Nat) : Seen := (List.range j).foldl (fun L far => (hits (nearAcc x far) T 0).foldl (addS far) L) []
theorem metTo_succ (T : List (List UInt8)) (x : List UInt8) (j : Nat) : metTo T x (j + 1) = (hits (nearAcc x j) T 0).foldl (addS j) (metTo T x j) := by
  unfold metTo
  rw [List.range_succ, List.foldl_append]
  rfl
theorem addS_len (far : Nat) (L : Seen) (q : List UInt8 × Nat) : (addS far L q).length ≤ L.length + 1 := by
  unfold addS
  split
  · omega
  · simp
theorem addAll_len (far : Nat) : ∀ (ys : List (List UInt8 × Nat)) (L : Seen), (ys.foldl (addS far) L).length ≤ L.length + ys.length
  | [], L => by simp
  | q :: ys, L => by
    have h1 := addAll_len far ys (addS far L q)
    have h2 := addS_len far L q
    rw [List.foldl_cons, List.length_cons]
    omega
theorem hits_len (f : List UInt8 → Bool) (T : List (List UInt8)) (n : Nat) : (hits f T n).length ≤ T.length := by
  unfold hits
  exact Nat.le_trans (List.length_filter_le _ _) (by simp)
theorem metTo_len (T : List (List UInt8)) (x : List UInt8) : ∀ j, (metTo T x j).length ≤ j * T.length
  | 0 => by simp [metTo]
  | j + 1 => by
    have h1 := metTo_len T x j
    have h2 := addAll_len j (hits (nearAcc x j) T 0) (metTo T x j)
    have h3 := hits_len (nearAcc x j) T 0
    rw [metTo_succ, Nat.add_mul, Nat.one_mul]
    omega

/-- .. between two walks. -/
structure SK (w0 : World) (D : List (List (List UInt8))) (bm lb bs mb sb : Nat) (L : Seen) (W : World) : Prop where
  box : ∃ v, W.heap[lb]? = some (.cells #[v] 55 (0, 0)) ∧ W.ownsRow 0 59 3 v L.length (sugCells (L.map (sugOf D))) ∧ Past w0.heap.size v ∧ v.ownBlock ≠ some lb
  bxm : W.heap[bm]? = some (.cells #[.map (some mb)] 129 (0, 0))
  mp : MapIs intV W mb (vals intV (seenM L))
  bxs : W.heap[bs]? = some (.cells #[ptrV sb] 23 (0, 0))
  below : Below w0.heap.size w0 W
  ge : w0.heap.size ≤ lb ∧ w0.heap.size ≤ mb
theorem SJ.sk {w0 : World} {D : List (List (List UInt8))} {bm bf lb bs mb sb far : Nat} {L : Seen} {W : World} (h : SJ w0 D bm bf lb bs mb sb far L W) : SK w0 D bm lb bs mb sb L W := ⟨h.box, h.bxm, h.mp, h.bxs, h.below, h.ge⟩
theorem SK.sj {w0 : World} {D : List (List (List UInt8))} {bm bf lb bs mb sb far : Nat} {L : Seen} {W : World} (h : SK w0 D bm lb bs mb sb L W) (hf : W.heap[bf]? = some (.cells #[.int .i64 far] 3 (0, 0))) : SJ w0 D bm bf lb bs mb sb far L W := ⟨h.box, h.bxm, h.mp, hf, h.bxs, h.below, h.ge⟩
theorem SK.next {w0 : World} {D : List (List (List UInt8))} {bm lb bs mb sb : Nat} {L : Seen} {W W' : World} (h : SK w0 D bm lb bs mb sb L W) (hb : Below W.heap.size W W') : SK w0 D bm lb bs mb sb L W' := by
  obtain ⟨v, h1, h2, h3, h4⟩ := h.box
  have go : ∀ (k : Nat) o, W.heap[k]? = some o → W'.heap[k]? = some o := fun k o hk => (hb.block k (lt_of_heap hk)).trans hk
  exact ⟨⟨v, go _ _ h1, ownsRow_typed h2 fun k cs r hk => hb.block k (lt_of_heap hk), h3, h4⟩, go _ _ h.bxm, h.mp.of_block (hb.block _ h.mp.lt), go _ _ h.bxs, h.below.trans (hb.mono h.below.size), h.ge⟩

/-- A list of suggestions, as a slice tells it. -/
def SugsIs (w : World) (v : Value) (l : List Sug) : Prop :=
  (v = .slice none 0 0 ∧ l = []) ∨ ∃ g cap, v = .slice (some ⟨g, 0, none⟩) l.length cap ∧ ∀ j u, (sugCells l)[j]? = some u → w.cell? ⟨g, j, none⟩ = some u
theorem SugsIs.below {w w' : World} {v : Value} {l : List Sug} (h : SugsIs w v l) (hb : Below w.heap.size w w') : SugsIs w' v l := by
  rcases h with h | ⟨g, cap, h1, h2⟩
  · exact .inl h
  · exact .inr ⟨g, cap, h1, fun j u hu => (hb.cell (p := ⟨g, j, none⟩) (lt_of_cell (h2 j u hu))).trans (h2 j u hu)⟩

set_option maxRecDepth 100000 in
set_option maxHeartbeats 1000000 in
theorem suggest_bad (sb : Nat) (a : ByteArray) (d k : Nat) (w : World) (ha : a.size ≤ 1000) (hT : TabsIn w) (c : Int) (hbad : nearBad a d = some c) :
    Calls Tryz.prog 37 #[ptrV sb, .string a, .int .i64 d, .int .i64 k] w fun e w' => e = .returned (.tuple #[.slice none 0 0, errnoV c]) ∧ Below w.heap.size w w' := by
  have g0 : ¬ (k : Int) < 0 := by omega
  have hb0 : Below w.heap.size w (w.alloc (.cells #[.pointer (some ⟨sb, 0, none⟩)] 23)) := (Below.refl _ w).alloc (Nat.le_refl _) _
  have HB0 := Lib.hid hb0
  have HT := Lib.hid hT
  have HNB := Lib.hid hbad
  clear hT hbad hb0
  unfold ptrV
  go_enter Tryz.func37, Tryz.ntmps37
  go_wp2_with (go_at_call 54; refine (near_any a d _ ha (HT.out.below HB0.out)).mono ?_; rintro e w1 ⟨rfl, hb1⟩; rw [HNB.out]; simp only [errnoV])
  go_ret2
  exact ⟨rfl, HB0.out.trans (hb1.mono HB0.out.size)⟩

set_option maxRecDepth 100000 in
set_option maxHeartbeats 2000000 in
theorem suggest_any (sb : Nat) (D : List (List (List UInt8))) (kn : Value) (db : Nat) (R : Nat → Prop) (Λ : Nat → List Word) (ρ : Nat → Nat) (Dd : List DS) (pv : Value) (ps : List Value) (x : List UInt8) (d k : Nat) (w : World)
    (hseg : SegAt w sb D kn db R Λ ρ Dd pv ps) (hx : x.length ≤ 40) (hd : d ≤ 2) (hv : Lib.validD x = true) (hT : TabsIn w) :
    Calls Tryz.prog 37 #[ptrV sb, strV x, .int .i64 d, .int .i64 k] w fun e w' => ∃ fv z, e = .returned (.tuple #[fv, .nilIface]) ∧ Below w.heap.size w w' ∧
      z.Perm ((metTo (Λ 0) x (d + 1)).map (sugOf D)) ∧ Srt sugCmp z ∧ SugsIs w' fv (z.take k) := by
  have hmm := @run_makeMap Tryz.prog
  have g0 : ¬ (k : Int) < 0 := by omega
  have hbad : nearBad ⟨x.toArray⟩ d = none := by
    unfold nearBad
    rw [if_neg (by show ¬ 40 < x.toArray.size; simp; omega), if_neg (by omega), if_pos (by simpa using hv)]
  have hb0 : Below w.heap.size w (w.alloc (.cells #[.pointer (some ⟨sb, 0, none⟩)] 23)) := (Below.refl _ w).alloc (Nat.le_refl _) _
  have ha : (ByteArray.mk x.toArray).size ≤ 1000 := by show x.toArray.size ≤ 1000; simp; omega
  have HB0 := Lib.hid hb0
  have HT := Lib.hid hT
  have HV := Lib.hid hv
  have HNB := Lib.hid hbad
  have HSEG := Lib.hid hseg
  clear hT hbad hb0 hseg hv
  unfold ptrV strV
  go_enter Tryz.func37, Tryz.ntmps37
  go_wp2_with (go_at_call 54; refine (near_any ⟨x.toArray⟩ d _ ha (HT.out.below HB0.out)).mono ?_; rintro e w1 ⟨rfl, hb1⟩; rw [HNB.out]; simp only [])
  have hk0 : SK w D (w1.heap.size + 1 + 1) w1.heap.size w.heap.size (w1.heap.size + 1) sb [] (((w1.alloc (.cells #[.slice none 0 0] 55)).alloc (.map #[] 0)).alloc (.cells #[.map (some (w1.heap.size + 1))] 129)) := by
    have hs1 := hb1.size
    rw [World.size_alloc] at hs1
    have h1 := heap_alloc_new w1 (.cells #[.slice none 0 0] 55)
    have h2 := MapIs.made intV (w1.alloc (.cells #[.slice none 0 0] 55))
    have h3 := heap_alloc_new ((w1.alloc (.cells #[.slice none 0 0] 55)).alloc (.map #[] 0)) (.cells #[.map (some (w1.heap.size + 1))] 129)
    have hbs := (hb1.block w.heap.size (by simp)).trans (heap_alloc_new w (.cells #[.pointer (some ⟨sb, 0, none⟩)] 23))
    simp only [World.size_alloc] at h2 h3
    have hbb : Below w1.heap.size w1 (((w1.alloc (.cells #[.slice none 0 0] 55)).alloc (.map #[] 0)).alloc (.cells #[.map (some (w1.heap.size + 1))] 129)) := (((Below.refl _ w1).alloc (Nat.le_refl _) _).alloc (by simp) _).alloc (by simp; omega) _
    refine ⟨⟨.slice none 0 0, ?_, World.ownsRow_nil _ _ _ _, (fun k e => by cases e), (fun e => by cases e)⟩, h3, h2.of_block (Below.heap_alloc _ _ _ (by simp)), (hbb.block _ (by omega)).trans hbs, (HB0.out.trans (hb1.mono HB0.out.size)).trans (hbb.mono (by omega)), by omega, by omega⟩
    rw [Below.heap_alloc _ _ _ (by simp; omega), Below.heap_alloc _ _ _ (by simp)]
    exact h1
  have HSK0 := Lib.hid hk0
  have hs1 : w.heap.size < w1.heap.size := by have := hb1.size; rw [World.size_alloc] at this; omega
  clear hk0 hb1 HNB
  generalize ((w1.alloc (.cells #[.slice none 0 0] 55)).alloc (.map #[] 0)).alloc (.cells #[.map (some (w1.heap.size + 1))] 129) = W2 at *
  obtain ⟨lb, hlb⟩ : ∃ lb, lb = w1.heap.size := ⟨_, rfl⟩
  rw [← hlb] at HSK0 hs1 ⊢
  clear hlb
  go_loopw [26] (fun i wr => ∃ j : Nat, j ≤ d + 1 ∧ i = .int .i64 j ∧ Hid (SK w D (lb + 1 + 1) lb w.heap.size (lb + 1) sb (metTo (Λ 0) x j) wr)) (fun i _ => d + 1 - (intOf i).toNat)
  case atStart => exact ⟨0, Nat.zero_le _, rfl, HSK0⟩
  case round =>
    clear HSK0
    obtain ⟨j, hj, rfl, HSK⟩ := hrel
    by_cases hjl : j < d + 1
    · have hjz : (j : Int) < (d : Int) + 1 := by omega
      go_wp2_with fail
      have hal : Below wr.heap.size wr (wr.alloc (.cells #[.int .i64 j] 3)) := (Below.refl _ wr).alloc (Nat.le_refl _) _
      have hfb := heap_alloc_new wr (.cells #[.int .i64 j] 3)
      have hsj := (HSK.out.next hal).sj hfb
      have hszr : w.heap.size ≤ wr.heap.size := HSK.out.below.size
      clear hal hfb HSK
      obtain ⟨bf, hbf⟩ : ∃ bf, bf = wr.heap.size := ⟨_, rfl⟩
      rw [← hbf] at hsj ⊢
      clear hbf hszr
      generalize wr.alloc (.cells #[.int .i64 j] 3) = W3 at *
      -- what stays true while blocks are only added
      have hall : Hid (∀ W, Below W3.heap.size W3 W → SJ w D (lb + 1 + 1) bf lb w.heap.size (lb + 1) sb j (metTo (Λ 0) x j) W ∧ SegAt W sb D kn db R Λ ρ Dd pv ps ∧ TabsIn W ∧
          W.cell? ⟨bf, 0, none⟩ = some (.int .i64 j) ∧ W.cell? ⟨w.heap.size, 0, none⟩ = some (.pointer (some ⟨sb, 0, none⟩)) ∧ W.cell? ⟨sb, 1, none⟩ = some (.pointer (some ⟨db, 0, none⟩))) := Lib.hid fun W hb => by
        have h1 : SJ w D (lb + 1 + 1) bf lb w.heap.size (lb + 1) sb j (metTo (Λ 0) x j) W := (hsj.sk.next hb).sj ((hb.block _ (lt_of_heap hsj.bxf)).trans hsj.bxf)
        have h2 := HSEG.out.below h1.below
        exact ⟨h1, h2, HT.out.below h1.below, cell_block h1.bxf, cell_block h1.bxs, cell_block h2.1⟩
      have hc3 := (hall.out W3 (Below.refl _ _)).2.2.2
      have hszw : w.heap.size ≤ W3.heap.size := hsj.below.size
      clear hsj
      refine wp_region_ord [(0, false), (1, false), (5, false), (6, false), (7, false), (8, false), (9, false), (2, true), (3, false), (4, true), (10, true)]
        (fun w' => w'.cell? ⟨bf, 0, none⟩ = some (.int .i64 j) ∧ w'.cell? ⟨w.heap.size, 0, none⟩ = some (.pointer (some ⟨sb, 0, none⟩)) ∧ w'.cell? ⟨sb, 1, none⟩ = some (.pointer (some ⟨db, 0, none⟩))) (by kernel_rfl) (by kernel_rfl) hc3 ?_
      clear hc3
      iterate 7 (
        refine wpOrd_quiet ?_ rfl rfl (fun w' hS => ?_) ?_
        rotate_left
        · obtain ⟨e0, e1, e2⟩ := hS
          go_simp
          first | rfl | done
        simp only [put_lit, List.set_cons_succ, List.set_cons_zero])
      refine wpOrd_loud rfl rfl (by decide) (fun K hK => ?_)
      go_simp
      have hbd : Below W3.heap.size W3 W3.drew := (Below.refl _ _).drew
      refine (nearTo_any ⟨x.toArray⟩ j W3.drew (by simpa using HV.out) ha (hall.out _ hbd).2.2.1).mono ?_
      rintro e W4 ⟨g, cap, rfl, hb4, hm4⟩
      have hb34 : Below W3.heap.size W3 W4 := hbd.trans hb4
      refine hK _ _ (hall.out _ hb34).2.2.2 ?_
      clear hK K hb4 hbd
      refine wpOrd_quiet ?_ rfl rfl (fun w' hS => ?_) ?_
      rotate_left
      · obtain ⟨e0, e1, e2⟩ := hS
        go_simp
        first | rfl | done
      simp only [put_lit, List.set_cons_succ, List.set_cons_zero]
      refine wpOrd_loud rfl rfl (by decide) (fun K hK => ?_)
      go_simp
      refine (Go.Proofs.Ts.R.over_make _ _ ⟨_, _, rfl⟩).mono ?_
      rintro e W5 ⟨rfl, hW5⟩
      have hb45 : Below W4.heap.size W4 W5 := by rw [hW5]; exact (Below.refl _ W4).alloc (Nat.le_refl _) _
      have hb35 : Below W3.heap.size W3 W5 := hb34.trans (hb45.mono hb34.size)
      have hba5 : W5.heap[W4.heap.size]? = some (.cells #[.iface 138 (nearV g cap (runesR ⟨x.toArray⟩) j)] 211 (0, 0)) := by rw [hW5]; exact heap_alloc_new W4 _
      have hm5 : NearMem g (runesR ⟨x.toArray⟩) W5 := hm4.keep (KeepG.below hb45)
      have hsz5 : w.heap.size ≤ W5.heap.size := Nat.le_trans hszw hb35.size
      have hA5 := hall.out _ hb35
      refine hK _ _ hA5.2.2.2 ?_
      have HM5 := Lib.hid hm5
      have HBA5 := Lib.hid hba5
      have HA5 := Lib.hid hA5
      clear hK K hW5 hb45 hb34 hm4 hall hA5 hm5 hba5 hb35
      refine wpOrd_loud rfl rfl (by decide) (fun K hK => ?_)
      go_simp
      have hru := runesR_of (a := ⟨x.toArray⟩) (by simpa using HV.out)
      have hlr : (runesR ⟨x.toArray⟩).length ≤ 40 := by
        have := hru.2.2.1
        have e : (ByteArray.mk x.toArray).size = x.length := by show x.toArray.size = _; simp
        omega
      have hlen0 : (Λ 0).length ≤ 10000 := HSEG.out.2.2.2.2.1
      have hml := metTo_len (Λ 0) x j
      have hm2 : (metTo (Λ 0) x j).length ≤ 20000 := by
        have : j * (Λ 0).length ≤ 2 * 10000 := Nat.mul_le_mul (by omega) hlen0
        omega
      have hrun := Go.Proofs.Ts.R.over_any (near_aut g cap (runesR ⟨x.toArray⟩) j hlr (runesR_le (by simpa using HV.out)) (by omega)) (near_start g cap (runesR ⟨x.toArray⟩) j) nstart_ok
        57 #[.pointer (some ⟨lb + 1 + 1, 0, none⟩), .pointer (some ⟨bf, 0, none⟩), .pointer (some ⟨lb, 0, none⟩), .pointer (some ⟨w.heap.size, 0, none⟩)] (enters_of Tryz.func57 (by kernel_rfl) rfl) W4.heap.size W5
        HM5.out HA5.out.2.1.2.1 (by omega) HBA5.out
        (fun ys W => SJ w D (lb + 1 + 1) bf lb w.heap.size (lb + 1) sb j (ys.foldl (addS j) (metTo (Λ 0) x j)) W) (fun _ _ => False)
        (fun ys wa wb h hs => h.steps hsz5 hs)
        (fun ys t i wa h hp => by
          have hmem : (t, i) ∈ hits (nearAcc x j) (Λ 0) 0 := hp.subset (by simp)
          have hti := (hits_mem hmem).2.2
          simp only [Nat.sub_zero] at hti
          have hyl : ys.length ≤ 10000 := by
            have h1 := hp.length_le
            have h2 := hits_len (nearAcc x j) (Λ 0) 0
            have h3 : (ys ++ [(t, i)]).length ≤ (hits (nearAcc x j) (Λ 0) 0).length := h1
            rw [List.length_append] at h3
            omega
          have hll := addAll_len j ys (metTo (Λ 0) x j)
          refine (sugYield_any w D (lb + 1 + 1) bf lb w.heap.size (lb + 1) sb j kn db R Λ ρ Dd pv ps HSEG.out _ t i wa h hti (by omega)).mono ?_
          rintro e wb ⟨hk, hsj, rfl⟩
          refine ⟨hk, .inl ⟨rfl, ?_⟩⟩
          rw [List.foldl_append]
          exact hsj)
        HA5.out.1
      unfold ptrV at hrun
      refine hrun.mono ?_
      clear hrun hru
      rintro e W6 ⟨rfl, _, hres⟩
      rcases hres with hres | ⟨zs, _, hres⟩
      · have hres' : SJ w D (lb + 1 + 1) bf lb w.heap.size (lb + 1) sb j ((hits (nearAcc x j) (Λ 0) 0).foldl (addS j) (metTo (Λ 0) x j)) W6 := hres
        rw [← metTo_succ] at hres'
        have HR := Lib.hid hres'.sk
        have e1 : W6.cell? ⟨bf, 0, none⟩ = some (.int .i64 j) := cell_block hres'.bxf
        have e2 : W6.cell? ⟨w.heap.size, 0, none⟩ = some (.pointer (some ⟨sb, 0, none⟩)) := cell_block hres'.bxs
        have e3 : W6.cell? ⟨sb, 1, none⟩ = some (.pointer (some ⟨db, 0, none⟩)) := cell_block (HSEG.out.below hres'.below).1
        refine hK _ _ ⟨e1, e2, e3⟩ ?_
        clear hres hres' hK K e1 e2 e3
        refine wpOrd_nil ?_
        go_wp2_with fail
        exact ⟨⟨j + 1, by omega, by go_num, HR⟩, by simp [intOf]; omega⟩
      · exact absurd hres (fun h => h)
    · obtain rfl : j = d + 1 := by omega
      have hjz : ¬ ((d + 1 : Nat) : Int) < (d : Int) + 1 := by omega
      obtain ⟨v, h1, h2, h3, h4⟩ := HSK.out.box
      have c0 : wr.cell? ⟨lb, 0, none⟩ = some v := cell_block h1
      have H1 := Lib.hid h1
      have H2 := Lib.hid h2
      have H3 := Lib.hid h3
      have H4 := Lib.hid h4
      clear h1 h2 h3 h4
      go_wp2_with fail
      have hl3 : ((metTo (Λ 0) x (d + 1)).map (sugOf D)).length ≤ 1000000 := by
        have h6 := metTo_len (Λ 0) x (d + 1)
        have h5 := HSEG.out.2.2.2.2.1
        have h7 : (d + 1) * (Λ 0).length ≤ 3 * 10000 := Nat.mul_le_mul (by omega) h5
        rw [List.length_map]
        omega
      have h2' : wr.ownsRow 0 59 3 v ((metTo (Λ 0) x (d + 1)).map (sugOf D)).length (sugCells ((metTo (Λ 0) x (d + 1)).map (sugOf D))) := by rw [List.length_map]; exact H2.out
      refine (sortStable_any v _ wr h2' hl3).mono ?_
      rintro e w2 ⟨rfl, z, hz1, hz2, hz3, hz4⟩
      have hbox2 : w2.heap[lb]? = some (.cells #[v] 55 (0, 0)) := (hz4.block lb (lt_of_heap H1.out) (fun e => H4.out e.symm)).trans H1.out
      have hb2 : Below w.heap.size w w2 := HSK.out.below.grown hz4 HSK.out.below.size (fun k e => H3.out k e)
      have HB2 := Lib.hid hb2
      have HZ := Lib.hid (show _ ∧ _ from ⟨hz3, hz2⟩)
      have HZ1 := Lib.hid hz1
      have c2 : w2.cell? ⟨lb, 0, none⟩ = some v := cell_block hbox2
      obtain ⟨n, hn⟩ : ∃ n, n = ((metTo (Λ 0) x (d + 1)).map (sugOf D)).length := ⟨_, rfl⟩
      rw [← hn] at HZ1 hl3
      have HN := Lib.hid (hn.trans hz3.length_eq.symm)
      clear h2' hz1 hz2 hz3 hz4 hbox2 hb2 hn H1 H2 H3 H4 HSK c0
      obtain ⟨m, hm⟩ : ∃ m, m = min k n := ⟨_, rfl⟩
      have hmz : min (k : Int) (n : Int) = (m : Int) := by omega
      have hmn : m ≤ n := by omega
      have hmt : (m : Int).toNat = m := by omega
      have HM := Lib.hid hm
      by_cases hm0 : m = 0
      · have hm0z : ((m : Int) == 0) = true := by simp [hm0]
        have HM0 := Lib.hid hm0
        obtain ⟨va, vc, rfl⟩ := ownsRow_form HZ1.out
        clear hm hm0
        go_wp2_with fail
        go_ret2
        refine ⟨_, z, rfl, HB2.out, HZ.out.1, HZ.out.2, .inl ⟨rfl, ?_⟩⟩
        have h1 := HM.out
        have h2 := HM0.out
        have h3 := HN.out
        rcases Nat.lt_or_ge k n with h | h
        · have : k = 0 := by omega
          rw [this]; rfl
        · have : z = [] := List.eq_nil_of_length_eq_zero (by omega)
          rw [this]; simp
      · have hm0z : ((m : Int) == 0) = false := by rw [beq_eq_false_iff_ne]; omega
        obtain ⟨n', hn'⟩ : ∃ n', n = n' + 1 := ⟨n - 1, by omega⟩
        have hz1 := HZ1.out
        have hz1' := hz1
        rw [hn'] at hz1'
        obtain ⟨g, cap, rfl⟩ := ownsRow_head hz1'
        rw [← hn'] at *
        rcases hz1.2 with ⟨h0, _⟩ | ⟨g', cap', cur, hv', _, hcur, hc1, hc2, hc3, hc4⟩
        · cases h0
        cases hv'
        have HCUR := Lib.hid (show _ ∧ _ from ⟨hcur, hc4⟩)
        have hcm : (m : Int) ≤ (cap : Int) := by omega
        clear hm hm0 hz1 hz1' hcur hc3 hc4
        go_wp2_with fail
        go_ret2
        have hzl : z.length = n := HN.out.symm
        have htk : (z.take k).length = m := by rw [List.length_take, hzl]; exact HM.out.symm
        refine ⟨_, z, rfl, HB2.out, HZ.out.1, HZ.out.2, .inr ⟨g, m, ?_, fun q u hu => ?_⟩⟩
        · rw [htk]; rfl
        · have hq : q < m * 3 := by
            have := (List.getElem?_eq_some_iff.1 hu).1
            rw [sugCells_len, htk] at this
            exact this
          have h3 : (sugCells z)[q]? = some u := by
            have hsp : sugCells z = sugCells (z.take k) ++ sugCells (z.drop k) := by
              unfold sugCells
              rw [← List.flatMap_append, List.take_append_drop]
            rw [hsp, List.getElem?_append_left (List.getElem?_eq_some_iff.1 hu).1]
            exact hu
          rw [← HCUR.out.2, List.getElem?_take_of_lt (by omega), Array.getElem?_toList] at h3
          exact (cell_block HCUR.out.1).trans h3
end Go.Proofs.Ts
