/- Lemmas towards the statement Changed of termsearch: walks of the program's functions and plain laws on lists (TsWords, TsBase, TsKeep1, TsKeep2, TsKeep3, TsCard, TsMap, TsKeys, TsRow). Conditions: those that each theorem names. -/
import Derived.Lib.FieldsP
import Derived.WalkKit
import Derived.WalkLawsBesides
import Derived.WalkSpells
import Derived.Deep.QuietTactic
import Derived.BigQuiet
import Derived.Deep.LoopGhost
import Derived.Lib.Hide
import Derived.Test.YtglafkgakcfahaaGreatDoorProg
import Derived.Test.YtglafkgakcfahaaGreatDoorCards
import Derived.Test.YtglafkgakcfahaaGreatDoorTie
import Derived.ProofKit
import Derived.OpenShut
import Derived.Carry
import Derived.SliceStrings
import Derived.LaidHandle
import Derived.LaidLaws
import Derived.Deep.DeepHandedRow
import Derived.LaidEql
import Derived.MapKept
import Derived.Laws.StructEq
/- Plain lists of bytes: the fields between blanks, small letters, a word between blanks; and what strings.FieldsFunc's pieces are. No program, no run. -/
set_option linter.unusedSectionVars false
set_option linter.unusedVariables false
set_option linter.unusedSimpArgs false
namespace Go.Proofs.Ts
open Go

def isBlank (c : UInt8) : Bool := c == 32 || c == 9 || c == 10
def low1 (c : UInt8) : UInt8 := if 65 ≤ c ∧ c ≤ 90 then c + 32 else c
def lowL (l : List UInt8) : List UInt8 := l.map low1

/-- The longest runs of bytes that are no blanks; cur: the run that is open. -/
def fields : List UInt8 → List UInt8 → List (List UInt8)
  | [], cur => if cur = [] then [] else [cur]
  | c :: r, cur => if isBlank c = true then (if cur = [] then fields r [] else cur :: fields r []) else fields r (cur ++ [c])

theorem fields_all : ∀ (l cur : List UInt8), (∀ c ∈ cur, isBlank c = false) → ∀ f ∈ fields l cur, f ≠ [] ∧ ∀ c ∈ f, isBlank c = false
  | [], cur, hc, f, hf => by
    unfold fields at hf
    split at hf
    · cases hf
    · rename_i h
      simp at hf
      subst hf
      exact ⟨h, hc⟩
  | c :: r, cur, hc, f, hf => by
    unfold fields at hf
    split at hf
    · split at hf
      · exact fields_all r [] (by simp) f hf
      · rename_i h
        rcases List.mem_cons.1 hf with rfl | hf
        · exact ⟨h, hc⟩
        · exact fields_all r [] (by simp) f hf
    · rename_i hb
      refine fields_all r (cur ++ [c]) ?_ f hf
      intro x hx
      rcases List.mem_append.1 hx with hx | hx
      · exact hc x hx
      · simp at hx; subst hx; simpa using hb

/-- Where a list ends, or goes on with a blank. -/
def EndsHere (b : List UInt8) : Prop := b = [] ∨ ∃ c r, b = c :: r ∧ isBlank c = true
/-- Where a list begins, or has a blank at its end. -/
def BeginsHere (a : List UInt8) : Prop := a = [] ∨ ∃ p c, a = p ++ [c] ∧ isBlank c = true

theorem fields_mem : ∀ (l cur f : List UInt8), f ∈ fields l cur ↔
    (∃ u b, l = u ++ b ∧ f = cur ++ u ∧ f ≠ [] ∧ (∀ c ∈ u, isBlank c = false) ∧ EndsHere b) ∨
    (∃ a b, a ≠ [] ∧ l = a ++ (f ++ b) ∧ f ≠ [] ∧ (∀ c ∈ f, isBlank c = false) ∧ BeginsHere a ∧ EndsHere b)
  | [], cur, f => by
    unfold fields
    constructor
    · intro h
      split at h
      · cases h
      · rename_i hne
        simp at h
        subst h
        exact .inl ⟨[], [], rfl, by simp, hne, by simp, .inl rfl⟩
    · rintro (⟨u, b, h1, h2, h3, _, _⟩ | ⟨a, b, h1, h2, _⟩)
      · have := List.append_eq_nil_iff.1 h1.symm
        obtain ⟨rfl, rfl⟩ := this
        simp at h2
        subst h2
        simp [h3]
      · have := List.append_eq_nil_iff.1 h2.symm
        exact absurd this.1 h1
  | c :: r, cur, f => by
    unfold fields
    by_cases hb : isBlank c = true
    · rw [if_pos hb]
      have key : f ∈ fields r [] ↔ ∃ a b, a ≠ [] ∧ c :: r = a ++ (f ++ b) ∧ f ≠ [] ∧ (∀ c ∈ f, isBlank c = false) ∧ BeginsHere a ∧ EndsHere b := by
        rw [fields_mem r [] f]
        constructor
        · rintro (⟨u, b, h1, h2, h3, h4, h5⟩ | ⟨a, b, h1, h2, h3, h4, h5, h6⟩)
          · simp at h2
            subst h2
            exact ⟨[c], b, by simp, by simp [h1], h3, h4, .inr ⟨[], c, rfl, hb⟩, h5⟩
          · refine ⟨c :: a, b, by simp, by simp [h2], h3, h4, ?_, h6⟩
            rcases h5 with rfl | ⟨p, x, rfl, hx⟩
            · exact absurd rfl h1
            · exact .inr ⟨c :: p, x, rfl, hx⟩
        · rintro ⟨a, b, h1, h2, h3, h4, h5, h6⟩
          cases a with
          | nil => exact absurd rfl h1
          | cons y a =>
            simp only [List.cons_append, List.cons.injEq] at h2
            obtain ⟨rfl, h2⟩ := h2
            by_cases ha : a = []
            · subst ha
              exact .inl ⟨f, b, h2, by simp, h3, h4, h6⟩
            · refine .inr ⟨a, b, ha, h2, h3, h4, ?_, h6⟩
              rcases h5 with h5 | ⟨p, x, h5, hx⟩
              · cases h5
              · cases p with
                | nil => simp at h5; exact absurd h5.2 ha
                | cons q p =>
                  simp only [List.cons_append, List.cons.injEq] at h5
                  exact .inr ⟨p, x, h5.2, hx⟩
      have first : (∃ u b, c :: r = u ++ b ∧ f = cur ++ u ∧ f ≠ [] ∧ (∀ c ∈ u, isBlank c = false) ∧ EndsHere b) ↔ f = cur ∧ f ≠ [] := by
        constructor
        · rintro ⟨u, b, h1, h2, h3, h4, _⟩
          cases u with
          | nil => simp at h2; exact ⟨h2, h3⟩
          | cons y u =>
            simp only [List.cons_append, List.cons.injEq] at h1
            have := h4 y (by simp)
            rw [← h1.1, hb] at this
            cases this
        · rintro ⟨rfl, h⟩
          exact ⟨[], c :: r, rfl, by simp, h, by simp, .inr ⟨c, r, rfl, hb⟩⟩
      rw [first, ← key]
      split
      · rename_i hc
        constructor
        · exact .inr
        · rintro (⟨h, h'⟩ | h)
          · exact absurd (h.trans hc) h'
          · exact h
      · rename_i hc
        rw [List.mem_cons]
        constructor
        · rintro (h | h)
          · exact .inl ⟨h, h ▸ hc⟩
          · exact .inr h
        · rintro (h | h)
          · exact .inl h.1
          · exact .inr h
    · rw [if_neg hb, fields_mem r (cur ++ [c]) f]
      have hb' : isBlank c = false := by simpa using hb
      constructor
      · rintro (⟨u, b, h1, h2, h3, h4, h5⟩ | ⟨a, b, h1, h2, h3, h4, h5, h6⟩)
        · refine .inl ⟨c :: u, b, by simp [h1], by simp [h2], h3, ?_, h5⟩
          intro x hx
          rcases List.mem_cons.1 hx with rfl | hx
          · exact hb'
          · exact h4 x hx
        · refine .inr ⟨c :: a, b, by simp, by simp [h2], h3, h4, ?_, h6⟩
          rcases h5 with rfl | ⟨p, x, rfl, hx⟩
          · exact absurd rfl h1
          · exact .inr ⟨c :: p, x, rfl, hx⟩
      · rintro (⟨u, b, h1, h2, h3, h4, h5⟩ | ⟨a, b, h1, h2, h3, h4, h5, h6⟩)
        · cases u with
          | nil =>
            simp at h1
            subst h1
            rcases h5 with h5 | ⟨x, y, h5, hx⟩
            · cases h5
            · simp only [List.cons.injEq] at h5
              rw [← h5.1] at hx
              exact absurd hx hb
          | cons y u =>
            simp only [List.cons_append, List.cons.injEq] at h1
            obtain ⟨rfl, h1⟩ := h1
            exact .inl ⟨u, b, h1, by simp [h2], h3, fun x hx => h4 x (List.mem_cons_of_mem _ hx), h5⟩
        · cases a with
          | nil => exact absurd rfl h1
          | cons y a =>
            simp only [List.cons_append, List.cons.injEq] at h2
            obtain ⟨rfl, h2⟩ := h2
            by_cases ha : a = []
            · subst ha
              rcases h5 with h5 | ⟨p, x, h5, hx⟩
              · cases h5
              · cases p with
                | nil => simp at h5; rw [← h5] at hx; exact absurd hx hb
                | cons q p => simp at h5
            · refine .inr ⟨a, b, ha, h2, h3, h4, ?_, h6⟩
              rcases h5 with h5 | ⟨p, x, h5, hx⟩
              · cases h5
              · cases p with
                | nil => simp at h5; exact absurd h5.2 ha
                | cons q p =>
                  simp only [List.cons_append, List.cons.injEq] at h5
                  exact .inr ⟨p, x, h5.2, hx⟩

/-- A field is a run of bytes that are no blanks, between blanks or at the ends. -/
theorem fields_iff (l f : List UInt8) : f ∈ fields l [] ↔ ∃ a b, l = a ++ (f ++ b) ∧ f ≠ [] ∧ (∀ c ∈ f, isBlank c = false) ∧ BeginsHere a ∧ EndsHere b := by
  rw [fields_mem]
  constructor
  · rintro (⟨u, b, h1, h2, h3, h4, h5⟩ | ⟨a, b, h1, h2, h3, h4, h5, h6⟩)
    · simp at h2
      subst h2
      exact ⟨[], b, by simpa using h1, h3, h4, .inl rfl, h5⟩
    · exact ⟨a, b, h2, h3, h4, h5, h6⟩
  · rintro ⟨a, b, h2, h3, h4, h5, h6⟩
    by_cases ha : a = []
    · subst ha
      exact .inl ⟨f, b, by simpa using h2, by simp, h3, h4, h6⟩
    · exact .inr ⟨a, b, ha, h2, h3, h4, h5, h6⟩

/-- The document has the word at place i. -/
def hasAt (d w : List UInt8) (i : Nat) : Bool :=
  (i == 0 || isBlank (d.getD (i - 1) 0)) && (i + w.length == d.length || isBlank (d.getD (i + w.length) 0)) && decide (lowL ((d.drop i).take w.length) = w)
def hasW (d w : List UInt8) : Bool := (List.range (d.length + 1 - w.length)).any (hasAt d w)

theorem low1_blank (c : UInt8) : isBlank (low1 c) = isBlank c := by
  unfold low1
  split
  · rename_i h
    obtain ⟨h1, h2⟩ := h
    have h1' : 65 ≤ c.toNat := by simpa [UInt8.le_iff_toNat_le] using h1
    have h2' : c.toNat ≤ 90 := by simpa [UInt8.le_iff_toNat_le] using h2
    have e : (c + 32).toNat = c.toNat + 32 := by rw [UInt8.toNat_add]; simp; omega
    have n (x : UInt8) (k : UInt8) : (x == k) = decide (x.toNat = k.toNat) := by rw [Bool.eq_iff_iff]; simp [UInt8.toNat_inj]
    simp only [isBlank, n, e]
    have a1 : ¬ (c.toNat + 32 = (32 : UInt8).toNat) := by simp; omega
    have a2 : ¬ (c.toNat + 32 = (9 : UInt8).toNat) := by simp
    have a3 : ¬ (c.toNat + 32 = (10 : UInt8).toNat) := by simp
    have b1 : ¬ (c.toNat = (32 : UInt8).toNat) := by simp; omega
    have b2 : ¬ (c.toNat = (9 : UInt8).toNat) := by simp; omega
    have b3 : ¬ (c.toNat = (10 : UInt8).toNat) := by simp; omega
    rw [decide_eq_false a1, decide_eq_false a2, decide_eq_false a3, decide_eq_false b1, decide_eq_false b2, decide_eq_false b3]
  · rfl

theorem hasW_iff (d w : List UInt8) (hw : w ≠ []) (hb : ∀ c ∈ w, isBlank c = false) : hasW d w = true ↔ w ∈ (fields d []).map lowL := by
  unfold hasW
  rw [List.any_eq_true, List.mem_map]
  constructor
  · rintro ⟨i, hi, h⟩
    rw [List.mem_range] at hi
    have hwl : 0 < w.length := List.length_pos_iff.2 hw
    have hle : i + w.length ≤ d.length := by omega
    simp only [hasAt, Bool.and_eq_true, Bool.or_eq_true, beq_iff_eq, decide_eq_true_eq] at h
    obtain ⟨⟨h1, h2⟩, h3⟩ := h
    refine ⟨(d.drop i).take w.length, ?_, h3⟩
    rw [fields_iff]
    refine ⟨d.take i, d.drop (i + w.length), ?_, ?_, ?_, ?_, ?_⟩
    · rw [← List.drop_drop, List.take_append_drop, List.take_append_drop]
    · intro e
      have h0 := congrArg List.length e
      rw [List.length_take, List.length_drop, List.length_nil] at h0
      omega
    · intro c hc
      rw [← low1_blank]
      exact hb _ (h3 ▸ List.mem_map_of_mem hc)
    · rcases h1 with h1 | h1
      · left; subst h1; rfl
      · by_cases h0 : i = 0
        · left; subst h0; rfl
        · right
          refine ⟨d.take (i - 1), d.getD (i - 1) 0, ?_, h1⟩
          have hi1 : i - 1 < d.length := by omega
          have e : i = (i - 1) + 1 := by omega
          rw [List.getD_eq_getElem?_getD, List.getElem?_eq_getElem hi1, Option.getD_some]
          conv => lhs; rw [e]
          exact List.take_succ_eq_append_getElem hi1
    · rcases h2 with h2 | h2
      · left; exact List.drop_eq_nil_of_le (by omega)
      · by_cases h0 : i + w.length < d.length
        · right
          refine ⟨d.getD (i + w.length) 0, d.drop (i + w.length + 1), ?_, h2⟩
          rw [List.getD_eq_getElem?_getD, List.getElem?_eq_getElem h0, Option.getD_some]
          exact List.drop_eq_getElem_cons h0
        · left; exact List.drop_eq_nil_of_le (by omega)
  · rintro ⟨f, hf, hfw⟩
    rw [fields_iff] at hf
    obtain ⟨a, b, h1, h2, h3, h4, h5⟩ := hf
    have hl : w.length = f.length := by rw [← hfw]; simp [lowL]
    refine ⟨a.length, ?_, ?_⟩
    · rw [List.mem_range, h1]; simp; omega
    · simp only [hasAt, Bool.and_eq_true, Bool.or_eq_true, beq_iff_eq, decide_eq_true_eq]
      refine ⟨⟨?_, ?_⟩, ?_⟩
      · rcases h4 with h4 | ⟨p, c, h4, hc⟩
        · left; simp [h4]
        · right
          rw [h1, h4]
          simpa [List.getD_eq_getElem?_getD] using hc
      · rcases h5 with h5 | ⟨c, r, h5, hc⟩
        · left; rw [h1, h5, hl]; simp
        · right
          rw [h1, h5, hl, List.getD_eq_getElem?_getD, List.getElem?_append_right (by omega), List.getElem?_append_right (by omega)]
          simpa using hc
      · rw [h1, hl]
        simpa using hfw
end Go.Proofs.Ts
/- Words that the walks share: 'Same' (a world but for its count of draws), 'Mod' (a world in which no block of old has turned but those of a set). No program of its own. -/
set_option linter.unusedSectionVars false
set_option linter.unusedVariables false
set_option linter.unusedSimpArgs false
namespace Go.Proofs.Ts
open Go Go.RowKit

/-- The world but for its count of draws. -/
def Same (w w' : World) : Prop := ∃ n, w' = w.drewN n
theorem Same.refl (w : World) : Same w w := ⟨0, rfl⟩
theorem Same.trans {a b c : World} (h : Same a b) (k : Same b c) : Same a c := by
  obtain ⟨n, rfl⟩ := h
  obtain ⟨m, rfl⟩ := k
  exact ⟨n + m, by simp⟩
theorem Same.drewN (w : World) (n : Nat) : Same w (w.drewN n) := ⟨n, rfl⟩
theorem Same.drew (w : World) : Same w w.drew := ⟨1, rfl⟩
theorem Same.heap {w w' : World} (h : Same w w') : w'.heap = w.heap := by obtain ⟨n, rfl⟩ := h; rfl
theorem Same.cell {w w' : World} (h : Same w w') (a : Addr) : w'.cell? a = w.cell? a := by obtain ⟨n, rfl⟩ := h; rfl
theorem Same.frozen {w w' : World} (h : Same w w') (a : Addr) : w'.frozen? a = w.frozen? a := by obtain ⟨n, rfl⟩ := h; rfl
theorem Same.below {w w' : World} (h : Same w w') (B : Nat) : Below B w w' := by
  obtain ⟨n, rfl⟩ := h
  exact ⟨rfl, rfl, rfl, Nat.le_refl _, fun _ _ => rfl⟩

/-- A contract that leaves the same world, inside a region that only reads. -/
theorem quietS {P : Program} {f : FuncId} {args : Array Value} {w : World} {n : Nat} {v : Value}
    (h : Calls P f args (w.drewN n) fun e w' => e = .returned v ∧ Same (w.drewN n) w') : Calls P f args (w.drewN n) fun e w'' => e = .returned v ∧ ∃ m, w'' = w.drewN m :=
  h.mono fun _ _ ⟨he, m, hm⟩ => ⟨he, n + m, by rw [hm, World.drewN_drewN]⟩

/-- Blocks of old have not turned, but those of S; new ones may have come. -/
structure Mod (S : Nat → Prop) (w w' : World) : Prop where
  os : w'.os = w.os
  tape : w'.tape = w.tape
  output : w'.output = w.output
  size : w.heap.size ≤ w'.heap.size
  block : ∀ k, k < w.heap.size → ¬ S k → w'.heap[k]? = w.heap[k]?

theorem Mod.refl (S : Nat → Prop) (w : World) : Mod S w w := ⟨rfl, rfl, rfl, Nat.le_refl _, fun _ _ _ => rfl⟩
theorem Mod.trans {S : Nat → Prop} {a b c : World} (h : Mod S a b) (k : Mod S b c) : Mod S a c :=
  ⟨k.os.trans h.os, k.tape.trans h.tape, k.output.trans h.output, Nat.le_trans h.size k.size, fun j hj hn => (k.block j (Nat.lt_of_lt_of_le hj h.size) hn).trans (h.block j hj hn)⟩
theorem Mod.mono {S T : Nat → Prop} {a b : World} (h : Mod S a b) (hST : ∀ k, k < a.heap.size → S k → T k) : Mod T a b :=
  ⟨h.os, h.tape, h.output, h.size, fun j hj hn => h.block j hj fun hs => hn (hST j hj hs)⟩
theorem Mod.same {S : Nat → Prop} {a b : World} (h : Same a b) : Mod S a b := by
  obtain ⟨n, rfl⟩ := h
  exact ⟨rfl, rfl, rfl, Nat.le_refl _, fun _ _ _ => rfl⟩
theorem Mod.below {B : Nat} {a b : World} (h : Below B a b) : Mod (fun k => B ≤ k) a b :=
  ⟨h.os, h.tape, h.output, h.size, fun j _ hn => h.block j (by omega)⟩
theorem Mod.toBelow {S : Nat → Prop} {B : Nat} {a b : World} (h : Mod S a b) (hB : B ≤ a.heap.size) (hS : ∀ k, S k → B ≤ k) : Below B a b :=
  ⟨h.os, h.tape, h.output, h.size, fun j hj => h.block j (by omega) fun hs => by have := hS j hs; omega⟩
theorem Mod.grown {S : Nat → Prop} {a b : World} {row : Option Nat} (h : a.grownBy b row) (hr : ∀ k, row = some k → k < a.heap.size → S k) : Mod S a b :=
  ⟨h.os, h.tape, h.output, h.size, fun j hj hn => h.block j hj fun e => hn (hr j e.symm hj)⟩
theorem Mod.alloc (S : Nat → Prop) (w : World) (o : Obj) : Mod S w (w.alloc o) :=
  ⟨rfl, rfl, rfl, by simp, fun j hj _ => Below.heap_alloc w o j hj⟩
theorem Mod.setCell {S : Nat → Prop} (w : World) (a : Addr) (v : Value) (h : a.block < w.heap.size → S a.block) : Mod S w (w.setCell a v) :=
  ⟨rfl, rfl, rfl, by simp, fun j hj hn => Below.heap_setCell w a v j fun e => hn (e ▸ h (e ▸ hj))⟩
theorem Mod.cell {S : Nat → Prop} {w w' : World} (h : Mod S w w') {p : Addr} (hp : p.block < w.heap.size) (hn : ¬ S p.block) : w'.cell? p = w.cell? p := World.cell?_of_block (w := w) (h.block p.block hp hn)
theorem Mod.frozen {S : Nat → Prop} {w w' : World} (h : Mod S w w') {p : Addr} (hp : p.block < w.heap.size) (hn : ¬ S p.block) : w'.frozen? p = w.frozen? p := World.frozen?_of_block (w := w) (h.block p.block hp hn)

theorem ret_bool {a b : Bool} (h : a = b) : Ending.returned (.bool a) = .returned (.bool b) := by rw [h]
theorem ret_int {k : IntKind} {a b : Int} (h : a = b) : Ending.returned (.int k a) = .returned (.int k b) := by rw [h]

theorem idx_str (s : ByteArray) (k : Nat) (h : k < s.size) : s.data.toList[k]'(by simpa using h) = s[k] := by
  rw [Array.getElem_toList]; rfl
theorem take_succ_str (s : ByteArray) (k : Nat) (h : k < s.size) : s.data.toList.take (k + 1) = s.data.toList.take k ++ [s[k]] := by
  rw [List.take_succ_eq_append_getElem (by simpa using h), idx_str s k h]
end Go.Proofs.Ts
/- Walks of the keep package's small functions: blank, small1, small, word, has. -/
namespace Go.Proofs.Ts
open Go Go.RowKit

theorem blank_toNat (c : UInt8) : isBlank c = (((c.toNat : Int) == 32) || ((c.toNat : Int) == 9) || ((c.toNat : Int) == 10)) := by
  unfold isBlank
  rw [Bool.eq_iff_iff]
  simp [← UInt8.toNat_inj]
  omega
theorem low1_toNat (c : UInt8) : ((low1 c).toNat : Int) = if 65 ≤ c.toNat ∧ c.toNat ≤ 90 then (c.toNat : Int) + 32 else c.toNat := by
  unfold low1
  by_cases h : 65 ≤ c ∧ c ≤ 90
  · have h1 : 65 ≤ c.toNat := by simpa [UInt8.le_iff_toNat_le] using h.1
    have h2 : c.toNat ≤ 90 := by simpa [UInt8.le_iff_toNat_le] using h.2
    rw [if_pos h, if_pos ⟨h1, h2⟩, UInt8.toNat_add]
    simp
    omega
  · have h' : ¬ (65 ≤ c.toNat ∧ c.toNat ≤ 90) := fun x => h ⟨by simpa [UInt8.le_iff_toNat_le] using x.1, by simpa [UInt8.le_iff_toNat_le] using x.2⟩
    rw [if_neg h, if_neg h']


theorem blank_any (c : UInt8) (w : World) :
    Calls Tryz.prog 29 #[.int .u8 c.toNat] w fun e w' => e = .returned (.bool (isBlank c)) ∧ Same w w' := by
  rw [blank_toNat]
  go_enter Tryz.func29, Tryz.ntmps29
  go_wp2
  all_goals
    go_ret
    exact ⟨ret_bool (by simp [*]), Same.refl _⟩

theorem small1_any (c : UInt8) (w : World) :
    Calls Tryz.prog 30 #[.int .u8 c.toNat] w fun e w' => e = .returned (.int .u8 (low1 c).toNat) ∧ Same w w' := by
  have hb : c.toNat < 256 := c.toNat_lt
  have hl := Lib.hid (low1_toNat c)
  go_enter Tryz.func30, Tryz.ntmps30
  by_cases h1 : 65 ≤ c.toNat
  · by_cases h2 : c.toNat ≤ 90
    · go_wp2
      go_ret
      exact ⟨ret_int (by rw [hl.out, if_pos ⟨h1, h2⟩]), Same.refl _⟩
    · go_wp2
      go_ret
      exact ⟨ret_int (by rw [hl.out, if_neg (by omega)]), Same.refl _⟩
  · go_wp2
    go_ret
    exact ⟨ret_int (by rw [hl.out, if_neg (by omega)]), Same.refl _⟩


/-- May it be a term? -/
def wordCh (c : UInt8) : Bool := !isBlank c && decide (low1 c = c)
def wordW (w : List UInt8) : Bool := w.all wordCh && decide (0 < w.length) && decide (w.length ≤ 16)

theorem wordW_no (s : ByteArray) (k : Nat) (h : k < s.size) (hc : wordCh s[k] = false) : wordW s.data.toList = false := by
  unfold wordW
  have hm : s[k] ∈ s.data.toList := by rw [← idx_str s k h]; exact List.getElem_mem _
  have : s.data.toList.all wordCh = false := by
    rw [Bool.eq_false_iff]
    intro ha
    rw [List.all_eq_true] at ha
    rw [ha _ hm] at hc
    cases hc
  simp [this]
theorem wordCh_blank {c : UInt8} (h : isBlank c = true) : wordCh c = false := by simp [wordCh, h]
theorem wordCh_low {c : UInt8} (hb : isBlank c = false) (h : (((low1 c).toNat : Int) != (c.toNat : Int)) = false) : wordCh c = true := by
  simp only [bne_eq_false_iff_eq] at h
  have : low1 c = c := UInt8.toNat_inj.1 (by omega)
  simp [wordCh, hb, this]
theorem wordCh_low' {c : UInt8} (h : (((low1 c).toNat : Int) != (c.toNat : Int)) = true) : wordCh c = false := by
  have : ¬ low1 c = c := fun e => by rw [e] at h; simp at h
  simp [wordCh, this]
theorem wordW_len (s : ByteArray) (h : (s.data.toList.take s.size).all wordCh = true) : wordW s.data.toList = (decide (0 < s.size) && decide (s.size ≤ 16)) := by
  rw [List.take_of_length_le (by simp)] at h
  simp [wordW, h]

theorem word_any (s : ByteArray) (w : World) (hs : s.size ≤ 9223372036854775807) :
    Calls Tryz.prog 13 #[.string s] w fun e w' => e = .returned (.bool (wordW s.data.toList)) ∧ Same w w' := by
  go_enter Tryz.func13, Tryz.ntmps13
  go_wp2
  go_loopw [3] (fun i wr => ∃ k : Nat, k ≤ s.size ∧ i = .int .i64 k ∧ (s.data.toList.take k).all wordCh = true ∧ Same w wr) (fun i _ => s.size - (intOf i).toNat)
  case atStart => exact ⟨0, Nat.zero_le _, rfl, rfl, Same.refl _⟩
  case round =>
    obtain ⟨k, hk, rfl, hall, hS⟩ := hrel
    have HA := Lib.hid hall
    clear hall
    by_cases hlt : k < s.size
    · have hstep := Lib.hid (take_succ_str s k hlt)
      by_cases hb : isBlank s[k] = true
      · go_wp2_with (go_at_call 29; refine (blank_any _ _).mono ?_; rintro e w1 ⟨rfl, hS1⟩)
        go_quiet (fail)
        go_wp2
        go_ret
        exact ⟨ret_bool (wordW_no s k hlt (wordCh_blank hb)).symm, hS.trans (hS1.trans (Same.drewN _ _))⟩
      · have hb' : isBlank s[k] = false := by simpa using hb
        clear hb
        go_wp2_with (go_at_call 29; refine (blank_any _ _).mono ?_; rintro e w1 ⟨rfl, hS1⟩)
        go_quiet ((go_at_call 30; exact quietS (small1_any _ _)))
        go_wp2
        · go_ret
          exact ⟨ret_bool (wordW_no s k hlt (wordCh_low' ‹_›)).symm, hS.trans (hS1.trans (Same.drewN _ _))⟩
        · exact ⟨⟨k + 1, by omega, by go_num, by rw [hstep.out, List.all_append, HA.out]; simpa using wordCh_low hb' ‹_›, hS.trans (hS1.trans (Same.drewN _ _))⟩, by simp [intOf]; omega⟩
    · obtain rfl : k = s.size := by omega
      have hl := Lib.hid (wordW_len s HA.out)
      go_wp2
      all_goals
        go_ret
        refine ⟨ret_bool ?_, hS⟩
        rw [hl.out]
        rw [Bool.eq_iff_iff]
        simp only [Bool.and_eq_true, decide_eq_true_eq, Bool.false_eq_true, false_iff, not_and]
        omega
end Go.Proofs.Ts
/- The walk of the keep package's 'has': does the document have the word. -/
set_option linter.unusedVariables false
namespace Go.Proofs.Ts
open Go Go.RowKit

theorem any_range_succ (p : Nat → Bool) (k : Nat) (h : (List.range k).any p = false) (hk : p k = false) : (List.range (k + 1)).any p = false := by
  rw [List.range_succ, List.any_append, h]; simp [hk]
theorem getD_str (s : ByteArray) (k : Nat) (h : k < s.size) : s.data.toList.getD k 0 = s[k] := by
  rw [List.getD_eq_getElem?_getD, List.getElem?_eq_getElem (by simpa using h), Option.getD_some, idx_str s k h]
theorem hasAt_left (d s : ByteArray) (j : Nat) (h : j < d.size) (hb : isBlank d[j] = false) : hasAt d.data.toList s.data.toList (j + 1) = false := by
  unfold hasAt
  rw [Nat.add_sub_cancel, getD_str d j h, hb]
  simp
theorem hasAt_right (d s : ByteArray) (k : Nat) (h : k + s.size < d.size) (hb : isBlank d[k + s.size] = false) : hasAt d.data.toList s.data.toList k = false := by
  unfold hasAt
  have e : s.data.toList.length = s.size := by simp
  have e' : d.data.toList.length = d.size := by simp
  rw [e, e', getD_str d _ h, hb]
  simp
  omega
theorem hasAt_mid (d s : ByteArray) (k : Nat) (hk : k + s.size ≤ d.size) (hl : k = 0 ∨ ∃ (j : Nat) (hj : j < d.size), k = j + 1 ∧ isBlank d[j] = true) (hr : k + s.size = d.size ∨ ∃ h : k + s.size < d.size, isBlank d[k + s.size] = true) :
    hasAt d.data.toList s.data.toList k = decide (lowL ((d.data.toList.drop k).take s.size) = s.data.toList) := by
  unfold hasAt
  have e : s.data.toList.length = s.size := by simp
  have e' : d.data.toList.length = d.size := by simp
  rw [e, e']
  have h1 : (k == 0 || isBlank (d.data.toList.getD (k - 1) 0)) = true := by
    rcases hl with rfl | ⟨j, hj, rfl, hb⟩
    · rfl
    · rw [Nat.add_sub_cancel, getD_str d j hj, hb]; simp
  have h2 : (k + s.size == d.size || isBlank (d.data.toList.getD (k + s.size) 0)) = true := by
    rcases hr with h | ⟨h, hb⟩
    · simp [h]
    · rw [getD_str d _ h, hb]; simp
  rw [h1, h2]
  rfl
/-- The first m letters agree. -/
def agree (d s : List UInt8) (k m : Nat) : Bool := decide (lowL ((d.drop k).take m) = s.take m)
theorem agree_zero (d s : List UInt8) (k : Nat) : agree d s k 0 = true := by simp [agree, lowL]
theorem agree_succ (d s : ByteArray) (k m : Nat) (hm : m < s.size) (hk : k + s.size ≤ d.size) : ∀ (h : k + m < d.size),
    agree d.data.toList s.data.toList k (m + 1) = (agree d.data.toList s.data.toList k m && (((low1 d[k + m]).toNat : Int) == (s[m].toNat : Int))) := by
  intro h
  unfold agree
  have h1 : m < (d.data.toList.drop k).length := by simp; omega
  have h2 : m < s.data.toList.length := by simpa using hm
  rw [List.take_succ_eq_append_getElem h1, List.take_succ_eq_append_getElem h2]
  have e1 : (d.data.toList.drop k)[m] = d[k + m] := by rw [List.getElem_drop]; exact idx_str d _ h
  have e2 : s.data.toList[m] = s[m] := idx_str s m hm
  rw [e1, e2]
  have hlen : (lowL ((d.data.toList.drop k).take m)).length = (s.data.toList.take m).length := by simp [lowL]; omega
  have hl1 : lowL ((d.data.toList.drop k).take m ++ [d[k + m]]) = lowL ((d.data.toList.drop k).take m) ++ [low1 d[k + m]] := by simp [lowL]
  rw [hl1]
  generalize lowL ((d.data.toList.drop k).take m) = A at *
  generalize s.data.toList.take m = B at *
  rw [Bool.eq_iff_iff, Bool.and_eq_true, decide_eq_true_eq, decide_eq_true_eq, beq_iff_eq]
  constructor
  · intro e
    obtain ⟨a, b⟩ := List.append_inj e hlen
    simp only [List.cons.injEq, and_true] at b
    exact ⟨a, by rw [b]⟩
  · rintro ⟨a, b⟩
    have : low1 d[k + m] = s[m] := UInt8.toNat_inj.1 (by omega)
    rw [a, this]
theorem agree_end (d s : ByteArray) (k : Nat) : agree d.data.toList s.data.toList k s.size = decide (lowL ((d.data.toList.drop k).take s.size) = s.data.toList) := by
  unfold agree
  rw [List.take_of_length_le (l := s.data.toList) (by simp)]
theorem hasW_yes (d s : ByteArray) (k : Nat) (hk : k + s.size ≤ d.size) (h : hasAt d.data.toList s.data.toList k = true) : hasW d.data.toList s.data.toList = true := by
  unfold hasW
  rw [List.any_eq_true]
  exact ⟨k, by rw [List.mem_range]; simp; omega, h⟩
theorem hasW_no (d s : ByteArray) (k : Nat) (hk : d.size < k + s.size) (h : (List.range k).any (hasAt d.data.toList s.data.toList) = false) : hasW d.data.toList s.data.toList = false := by
  unfold hasW
  rw [Bool.eq_false_iff]
  intro ha
  rw [List.any_eq_true] at ha
  obtain ⟨i, hi, hp⟩ := ha
  rw [List.mem_range] at hi
  have : (List.range k).any (hasAt d.data.toList s.data.toList) = true := by
    rw [List.any_eq_true]
    refine ⟨i, ?_, hp⟩
    rw [List.mem_range]
    simp at hi
    omega
  rw [h] at this
  cases this

theorem hasAt_left' (d s : ByteArray) (k : Nat) (h0 : 0 < k) (h : k - 1 < d.size) (hb : isBlank d[k - 1] = false) : hasAt d.data.toList s.data.toList k = false := by
  obtain ⟨j, rfl⟩ : ∃ j, k = j + 1 := ⟨k - 1, by omega⟩
  exact hasAt_left d s j h hb
theorem hasAt_mid' (d s : ByteArray) (k : Nat) (hk : k + s.size ≤ d.size) (hl : 0 < k → ∃ h : k - 1 < d.size, isBlank d[k - 1] = true) (hr : k + s.size < d.size → ∃ h : k + s.size < d.size, isBlank d[k + s.size] = true) :
    hasAt d.data.toList s.data.toList k = agree d.data.toList s.data.toList k s.size := by
  rw [agree_end]
  refine hasAt_mid d s k hk ?_ ?_
  · rcases Nat.eq_zero_or_pos k with h | h
    · exact .inl h
    · obtain ⟨h1, h2⟩ := hl h
      exact .inr ⟨k - 1, h1, by omega, h2⟩
  · rcases Nat.lt_or_ge (k + s.size) d.size with h | h
    · exact .inr (hr h)
    · exact .inl (by omega)

set_option maxHeartbeats 2000000 in
theorem has_any (d s : ByteArray) (w : World) (hd : d.size ≤ 1000000) (hs : s.size ≤ 1000000) :
    Calls Tryz.prog 15 #[.string d, .string s] w fun e w' => e = .returned (.bool (hasW d.data.toList s.data.toList)) ∧ Same w w' := by
  go_enter Tryz.func15, Tryz.ntmps15
  go_wp2
  go_loopw [5, 6, 7] (fun i _ _ wr => ∃ k : Nat, k ≤ d.size + 1 ∧ i = .int .i64 k ∧ Hid ((List.range k).any (hasAt d.data.toList s.data.toList) = false) ∧ Same w wr) (fun i _ _ _ => d.size + 2 - (intOf i).toNat)
  case atStart => exact ⟨0, by omega, rfl, rfl, Same.refl _⟩
  case round =>
    obtain ⟨k, hk, rfl, HA, hS⟩ := hrel
    by_cases hlt : k + s.size ≤ d.size
    · have hcase : (0 < k ∧ ∃ h : k - 1 < d.size, isBlank d[k - 1] = false) ∨ (¬ 0 < k) ∨ (0 < k ∧ ∃ h : k - 1 < d.size, isBlank d[k - 1] = true) := by
        by_cases h : 0 < k
        · have hj : k - 1 < d.size := by omega
          cases hb : isBlank d[k - 1]
          · exact .inl ⟨h, hj, hb⟩
          · exact .inr (.inr ⟨h, hj, hb⟩)
        · exact .inr (.inl h)
      have hcase2 : (¬ k + s.size < d.size) ∨ (∃ h : k + s.size < d.size, isBlank d[k + s.size] = true) ∨ (∃ h : k + s.size < d.size, isBlank d[k + s.size] = false) := by
        by_cases h : k + s.size < d.size
        · cases hb : isBlank d[k + s.size]
          · exact .inr (.inr ⟨h, hb⟩)
          · exact .inr (.inl ⟨h, hb⟩)
        · exact .inl h
      rcases hcase with ⟨h0, hj, hb⟩ | hl
      · have HN := Lib.hid (hasAt_left' d s k h0 hj hb)
        clear hcase2
        go_wp2_with (go_at_call 29; refine (blank_any _ _).mono ?_; rintro e w1 ⟨rfl, hS1⟩)
        exact ⟨⟨k + 1, by omega, by go_num, any_range_succ _ _ HA.out HN.out, hS.trans hS1⟩, by simp [intOf]; omega⟩
      · rcases hcase2 with hr | ⟨hr, hbr⟩ | ⟨hr, hbr⟩
        · have HM : Hid (hasAt d.data.toList s.data.toList k = agree d.data.toList s.data.toList k s.size) :=
            hasAt_mid' d s k hlt (fun h => hl.elim (absurd h) (·.2)) (fun h => absurd h hr)
          rcases hl with hl | ⟨h0, hj, hb⟩
          all_goals
            go_wp2_with (go_at_call 29; refine (blank_any _ _).mono ?_; rintro e w1 ⟨rfl, hS1⟩)
            go_loopw [6, 7] (fun eq i wr' => ∃ m : Nat, m ≤ s.size ∧ i = .int .i64 m ∧ eq = .bool (agree d.data.toList s.data.toList k m) ∧ Same w wr') (fun _ i _ => s.size - (intOf i).toNat)
            case atStart => exact ⟨0, Nat.zero_le _, rfl, by rw [agree_zero], by first | exact hS | exact hS.trans (by assumption) | exact (hS.trans (by assumption)).trans (by assumption)⟩
            case round =>
              obtain ⟨m, hm, rfl, rfl, hSi⟩ := hrel
              by_cases hmlt : m < s.size
              · have hkm : k + m < d.size := by omega
                have HG := Lib.hid (agree_succ d s k m hmlt hlt hkm)
                generalize hbb : agree d.data.toList s.data.toList k m = bb at *
                clear hbb
                cases bb
                · go_wp2_with fail
                  go_quiet (fail)
                  go_wp2
                  exact ⟨⟨m + 1, by omega, by go_num, by rw [HG.out]; rfl, hSi.trans (Same.drewN _ _)⟩, by simp [intOf]; omega⟩
                · go_wp2_with fail
                  have q1 : IntKind.i64.wrap ((k : Int) + (m : Int)) = (k : Int) + (m : Int) := IntWalk.i64_in _ (by omega)
                  have q2 : (0 : Int) ≤ (k : Int) + (m : Int) ∧ (k : Int) + (m : Int) < (d.size : Int) := by omega
                  have q3 : ((k : Int) + (m : Int)).toNat = k + m := by omega
                  go_quiet ((go_at_call 30; exact quietS (small1_any _ _)))
                  go_wp2
                  exact ⟨⟨m + 1, by omega, by go_num, by rw [HG.out]; rfl, hSi.trans (Same.drewN _ _)⟩, by simp [intOf]; omega⟩
              · obtain rfl : m = s.size := by omega
                generalize hbb : agree d.data.toList s.data.toList k s.size = bb at *
                clear hbb
                cases bb
                · go_wp2
                  exact ⟨⟨k + 1, by omega, by go_num, any_range_succ _ _ HA.out HM.out, hSi⟩, by simp [intOf]; omega⟩
                · have HY := Lib.hid (hasW_yes d s k hlt HM.out)
                  go_wp2
                  go_ret
                  exact ⟨ret_bool HY.out.symm, hSi⟩
        · have HM : Hid (hasAt d.data.toList s.data.toList k = agree d.data.toList s.data.toList k s.size) :=
            hasAt_mid' d s k hlt (fun h => hl.elim (absurd h) (·.2)) (fun _ => ⟨hr, hbr⟩)
          rcases hl with hl | ⟨h0, hj, hb⟩
          all_goals
            go_wp2_with (go_at_call 29; refine (blank_any _ _).mono ?_; rintro e w1 ⟨rfl, hS1⟩)
            go_loopw [6, 7] (fun eq i wr' => ∃ m : Nat, m ≤ s.size ∧ i = .int .i64 m ∧ eq = .bool (agree d.data.toList s.data.toList k m) ∧ Same w wr') (fun _ i _ => s.size - (intOf i).toNat)
            case atStart => exact ⟨0, Nat.zero_le _, rfl, by rw [agree_zero], by first | exact hS | exact hS.trans (by assumption) | exact (hS.trans (by assumption)).trans (by assumption)⟩
            case round =>
              obtain ⟨m, hm, rfl, rfl, hSi⟩ := hrel
              by_cases hmlt : m < s.size
              · have hkm : k + m < d.size := by omega
                have HG := Lib.hid (agree_succ d s k m hmlt hlt hkm)
                generalize hbb : agree d.data.toList s.data.toList k m = bb at *
                clear hbb
                cases bb
                · go_wp2_with fail
                  go_quiet (fail)
                  go_wp2
                  exact ⟨⟨m + 1, by omega, by go_num, by rw [HG.out]; rfl, hSi.trans (Same.drewN _ _)⟩, by simp [intOf]; omega⟩
                · go_wp2_with fail
                  have q1 : IntKind.i64.wrap ((k : Int) + (m : Int)) = (k : Int) + (m : Int) := IntWalk.i64_in _ (by omega)
                  have q2 : (0 : Int) ≤ (k : Int) + (m : Int) ∧ (k : Int) + (m : Int) < (d.size : Int) := by omega
                  have q3 : ((k : Int) + (m : Int)).toNat = k + m := by omega
                  go_quiet ((go_at_call 30; exact quietS (small1_any _ _)))
                  go_wp2
                  exact ⟨⟨m + 1, by omega, by go_num, by rw [HG.out]; rfl, hSi.trans (Same.drewN _ _)⟩, by simp [intOf]; omega⟩
              · obtain rfl : m = s.size := by omega
                generalize hbb : agree d.data.toList s.data.toList k s.size = bb at *
                clear hbb
                cases bb
                · go_wp2
                  exact ⟨⟨k + 1, by omega, by go_num, any_range_succ _ _ HA.out HM.out, hSi⟩, by simp [intOf]; omega⟩
                · have HY := Lib.hid (hasW_yes d s k hlt HM.out)
                  go_wp2
                  go_ret
                  exact ⟨ret_bool HY.out.symm, hSi⟩
        · have HN := Lib.hid (hasAt_right d s k hr hbr)
          rcases hl with hl | ⟨h0, hj, hb⟩
          · go_wp2_with (go_at_call 29; refine (blank_any _ _).mono ?_; rintro e w1 ⟨rfl, hS1⟩)
            exact ⟨⟨k + 1, by omega, by go_num, any_range_succ _ _ HA.out HN.out, hS.trans hS1⟩, by simp [intOf]; omega⟩
          · go_wp2_with (go_at_call 29; refine (blank_any _ _).mono ?_; rintro e w1 ⟨rfl, hS1⟩)
            exact ⟨⟨k + 1, by omega, by go_num, any_range_succ _ _ HA.out HN.out, by first | exact hS.trans (by assumption) | exact (hS.trans (by assumption)).trans (by assumption)⟩, by simp [intOf]; omega⟩
    · have HN := Lib.hid (hasW_no d s k (by omega) HA.out)
      go_wp2
      go_ret
      exact ⟨ret_bool HN.out.symm, hS⟩
end Go.Proofs.Ts
/- The walk of the keep package's 'small': are the documents few and short. And what a slice of strings in memory is. -/
set_option linter.unusedVariables false
namespace Go.Proofs.Ts
open Go Go.RowKit

/-- v is a slice that reads as these strings. -/
def StrsIs (w : World) (v : Value) (ss : List ByteArray) : Prop :=
  ∃ a cap, v = .slice a ss.length cap ∧ ∀ i (h : i < ss.length), ∃ b off, a = some ⟨b, off, none⟩ ∧ w.cell? ⟨b, off + i, none⟩ = some (.string ss[i])

def smallW (ss : List ByteArray) : Bool := decide (ss.length ≤ 48) && ss.all fun s => decide (s.size ≤ 200)

theorem smallW_take (ss : List ByteArray) (k : Nat) (hk : k < ss.length) (h : ss[k].size ≤ 200) (hp : (ss.take k).all (fun s => decide (s.size ≤ 200)) = true) : (ss.take (k + 1)).all (fun s => decide (s.size ≤ 200)) = true := by
  rw [List.take_succ_eq_append_getElem hk, List.all_append, hp]
  simp [h]
theorem smallW_no (ss : List ByteArray) (k : Nat) (hk : k < ss.length) (h : ¬ ss[k].size ≤ 200) : smallW ss = false := by
  unfold smallW
  have : (ss.all fun s => decide (s.size ≤ 200)) = false := by
    rw [Bool.eq_false_iff]
    intro ha
    rw [List.all_eq_true] at ha
    have := ha _ (List.getElem_mem hk)
    simp at this
    omega
  rw [this]
  simp
theorem smallW_many (ss : List ByteArray) (h : ¬ ss.length ≤ 48) : smallW ss = false := by simp [smallW, h]
theorem smallW_yes (ss : List ByteArray) (h : ss.length ≤ 48) (hp : (ss.take ss.length).all (fun s => decide (s.size ≤ 200)) = true) : smallW ss = true := by
  rw [List.take_of_length_le (Nat.le_refl _)] at hp
  simp only [smallW, hp, Bool.and_true, decide_eq_true_eq]
  exact h

theorem small_any (v : Value) (ss : List ByteArray) (w : World) (hv : StrsIs w v ss) (hl : ss.length ≤ 9223372036854775807) :
    Calls Tryz.prog 28 #[v] w fun e w' => e = .returned (.bool (smallW ss)) ∧ Same w w' := by
  obtain ⟨a, cap, rfl, hc⟩ := hv
  go_enter Tryz.func28, Tryz.ntmps28
  by_cases h48 : ss.length ≤ 48
  · have HC := Lib.hid hc
    clear hc
    go_wp2
    go_loop [3] (fun i => ∃ k : Nat, k ≤ ss.length ∧ i = .int .i64 k ∧ Hid ((ss.take k).all (fun s => decide (s.size ≤ 200)) = true)) (fun i => ss.length - (intOf i).toNat)
    case atStart => exact ⟨0, Nat.zero_le _, rfl, rfl⟩
    case round =>
      obtain ⟨k, hk, rfl, HA⟩ := hrel
      by_cases hlt : k < ss.length
      · obtain ⟨b, off, rfl, hcell⟩ := HC.out k hlt
        by_cases h200 : ss[k].size ≤ 200
        · have HN := Lib.hid (smallW_take ss k hlt h200 HA.out)
          go_wp2
          exact ⟨⟨k + 1, by omega, by go_num, HN⟩, by simp [intOf]; omega⟩
        · have HN := Lib.hid (smallW_no ss k hlt h200)
          go_wp2
          go_ret
          exact ⟨ret_bool HN.out.symm, Same.refl _⟩
      · obtain rfl : k = ss.length := by omega
        have HN := Lib.hid (smallW_yes ss h48 HA.out)
        go_wp2
        go_ret
        exact ⟨ret_bool HN.out.symm, Same.refl _⟩
  · have HN := Lib.hid (smallW_many ss h48)
    clear hc
    go_wp2
    go_ret
    exact ⟨ret_bool HN.out.symm, Same.refl _⟩
end Go.Proofs.Ts
/- What the cards of this seat share: the world of the witness, and how a list of documents is read. -/
set_option linter.unusedVariables false
set_option linter.unusedSimpArgs false
namespace Go.Proofs.YtglafkgakcfahaaGreatDoor.card
open Go Go.ChangeShapes Go.WideShapes Go.ChangeAt Go.RowKit

theorem own : ownKnob Tryz.prog.godebug = none := by kernel_rfl
theorem laidOut : laidOutB Tryz.prog = true := by kernel_rfl
theorem cellsS : Tryz.prog.cellsOf 9 = 1 := by kernel_rfl

def litV : DataW Unit → Value
  | .lit (.int k n) => .int k n
  | _ => .nilIface
def rowV : DataW Unit → List Value
  | .agg l => l.map litV
  | _ => []
def rowsV : DataW Unit → List Value
  | .agg l => l.flatMap rowV
  | _ => []

/-- A world for the witness: the settled one, the listed variables' cells laid. -/
noncomputable def laidWorld (os : Os) : World :=
  let w0 := World.holding Tryz.prog os ⟨#[], #[], []⟩
  let h1 := w0.heap.modify 0 fun
      | .cells _ t frozen => .cells #[.iface 222 (.agg #[typeHandle Tryz.prog 69])] t frozen
      | o => o
  let h2 := h1.modify 4 fun
      | .cells _ t frozen => .cells (rowV Rows.laid_math_bits_deBruijn64tab).toArray t frozen
      | o => o
  let h3 := h2.modify 3 fun
      | .cells _ t frozen => .cells (rowsV Rows.laid_unicode_utf8_acceptRanges).toArray t frozen
      | o => o
  let h4 := h3.modify 2 fun
      | .cells _ t frozen => .cells (rowV Rows.laid_unicode_utf8_first).toArray t frozen
      | o => o
  { w0 with heap := h4 }
theorem laid_met (os : Os) (args : Array Value) : laidMetH Tryz.prog Rows.foundRow.laid ((laidWorld os).forCall (fun _ _ => 0) ⟨#[], args, []⟩).memory :=
  laidMetH_of_parts (laidMet_of_run' 8 (by kernel_rfl) (by kernel_rfl)) (by kernel_rfl)

/-- A slice of strings that can be read is a list of documents. -/
theorem strs_is {W : World} {base : Nat} {spare : Nat → Bool} {held : Bool} {H : Type} {enc : TypeId × Value → H} {a0 : Option Addr} {len cap : Nat} {d : DataW H} {p : List MemPlace} (h : DataW.Trod enc Tryz.prog W base spare held 22 (.slice a0 len cap) d p) :
    ∃ docs : List ByteArray, Ts.StrsIs W (.slice a0 len cap) docs ∧ docs.length ≤ maxLen := by
  obtain ⟨fuel, h⟩ := h
  rcases open_strings Tryz.underlying22 Tryz.underlying9 cellsS h with ⟨hv, _⟩ | ⟨a, len', cap', ss, hv, _, hl, hc, hlen, _, hcell, _⟩
  · simp [Value.cells] at hv
    obtain ⟨rfl, rfl, rfl⟩ := hv
    exact ⟨[], ⟨none, 0, rfl, fun i hi => absurd hi (Nat.not_lt_zero i)⟩, Nat.zero_le _⟩
  · simp [Value.cells] at hv
    obtain ⟨rfl, rfl, rfl⟩ := hv
    have hle : len ≤ ss.length := by rw [hlen]; split <;> omega
    refine ⟨ss.take len, ⟨some a, cap, by rw [List.length_take, Nat.min_eq_left hle], fun i hi => ?_⟩, by rw [List.length_take]; omega⟩
    rw [List.length_take] at hi
    have hc := hcell i (by omega)
    obtain ⟨b, off, spot⟩ := a
    have hs : spot = none := by simpa [Addr.add] using World.cell?_spot (hcell 0 (by omega))
    subst hs
    refine ⟨b, off, rfl, ?_⟩
    have he : (ss.take len)[i]'(by rw [List.length_take]; omega) = ss.getD i ByteArray.empty := by
      rw [List.getElem_take, List.getD_eq_getElem?_getD, List.getElem?_eq_getElem (by omega)]
      rfl
    rw [he, ← hc]
    by_cases h0 : i = 0
    · subst h0; simp [Addr.add]
    · simp [Addr.add, h0]
end Go.Proofs.YtglafkgakcfahaaGreatDoor.card
/- Maps whose keys are the codes of some type with decidable equality, their block told as a list of pairs: lookup, store, range. No program of its own. -/
set_option linter.unusedSectionVars false
set_option linter.unusedVariables false
set_option linter.unusedSimpArgs false
namespace Go.Proofs.Ts
open Go

/-- The value that a list of pairs holds at a key. -/
def get {α β : Type} [DecidableEq α] : List (α × β) → α → Option β
  | [], _ => none
  | p :: r, k => if p.1 = k then some p.2 else get r k
/-- The list with a key's value turned (at its place, or at the end). -/
def put {α β : Type} [DecidableEq α] : List (α × β) → α → β → List (α × β)
  | [], k, v => [(k, v)]
  | p :: r, k, v => if p.1 = k then (k, v) :: r else p :: put r k v

section
variable {α β : Type} [DecidableEq α]
theorem get_put (m : List (α × β)) (k k' : α) (v : β) : get (put m k v) k' = if k = k' then some v else get m k' := by
  induction m with
  | nil => simp [put, get]
  | cons p r ih =>
    unfold put
    by_cases h : p.1 = k
    · by_cases h' : k = k'
      · simp [h, get, h']
      · have h2 : ¬ p.1 = k' := fun e => h' (h.symm.trans e)
        simp [h, get, h']
    · by_cases h' : k = k'
      · subst h'
        simp [h, get, ih]
      · simp [h, get, ih, h']
theorem get_some_mem {m : List (α × β)} {k : α} {v : β} (h : get m k = some v) : (k, v) ∈ m := by
  induction m with
  | nil => simp [get] at h
  | cons p r ih =>
    unfold get at h
    split at h
    · rename_i e
      cases h
      subst e
      simp
    · exact List.mem_cons_of_mem _ (ih h)
theorem get_none {m : List (α × β)} {k : α} : get m k = none ↔ ∀ p ∈ m, p.1 ≠ k := by
  induction m with
  | nil => simp [get]
  | cons p r ih =>
    unfold get
    by_cases h : p.1 = k
    · simp [h]
    · simp [h, ih]
theorem length_put_le (m : List (α × β)) (k : α) (v : β) : (put m k v).length ≤ m.length + 1 := by
  induction m with
  | nil => simp [put]
  | cons p r ih =>
    unfold put
    split
    · simp
    · simp; omega
theorem length_put_none {m : List (α × β)} {k : α} (v : β) (h : get m k = none) : put m k v = m ++ [(k, v)] := by
  induction m with
  | nil => rfl
  | cons p r ih =>
    unfold get at h
    split at h
    · cases h
    · rename_i e
      unfold put
      rw [if_neg e, ih h]
      rfl
theorem mem_put {m : List (α × β)} {k : α} {v : β} {p : α × β} (h : p ∈ put m k v) : p = (k, v) ∨ p ∈ m := by
  induction m with
  | nil => simp [put] at h; exact .inl h
  | cons q r ih =>
    unfold put at h
    split at h
    · rcases List.mem_cons.1 h with h | h
      · exact .inl h
      · exact .inr (List.mem_cons_of_mem _ h)
    · rcases List.mem_cons.1 h with h | h
      · exact .inr (h ▸ List.mem_cons_self)
      · rcases ih h with h | h
        · exact .inl h
        · exact .inr (List.mem_cons_of_mem _ h)
theorem keys_put_some {m : List (α × β)} {k : α} {v u : β} (h : get m k = some u) : (put m k v).map (·.1) = m.map (·.1) := by
  induction m with
  | nil => cases h
  | cons p r ih =>
    unfold get at h
    unfold put
    split at h
    · rename_i e
      rw [if_pos e]
      simp [e]
    · rename_i e
      rw [if_neg e]
      simp [ih h]
/-- The keys of the list are apart. -/
def Apart (m : List (α × β)) : Prop := (m.map (·.1)).Nodup
theorem Apart.put {m : List (α × β)} (h : Apart m) (k : α) (v : β) : Apart (put m k v) := by
  unfold Apart at *
  cases hg : get m k with
  | some u => rw [keys_put_some hg]; exact h
  | none =>
    rw [length_put_none v hg, List.map_append]
    rw [List.nodup_append]
    refine ⟨h, by simp, ?_⟩
    intro a ha b hb
    simp at hb
    subst hb
    rw [get_none] at hg
    obtain ⟨p, hp, rfl⟩ := List.mem_map.1 ha
    exact hg p hp
theorem get_of_mem {m : List (α × β)} (h : Apart m) {k : α} {v : β} (hm : (k, v) ∈ m) : get m k = some v := by
  induction m with
  | nil => cases hm
  | cons p r ih =>
    unfold Apart at h
    simp only [List.map_cons, List.nodup_cons] at h
    unfold get
    rcases List.mem_cons.1 hm with e | hm
    · rw [← e]; simp
    · have : ¬ p.1 = k := fun e => h.1 (e ▸ List.mem_map.2 ⟨(k, v), hm, rfl⟩)
      rw [if_neg this]
      exact ih h.2 hm
end

/-- What a key's type owes: over the worlds and codes of which 'ok' holds equality is the codes' own. -/
structure KeyLaw (P : Program) (K : TypeId) {α : Type} [DecidableEq α] (enc : α → Value) (ok : World → α → Prop) : Prop where
  now : ∀ d, P.underlying K = some d → ∀ a b, Instr.sameNow d (enc a) (enc b) = none ∨ Instr.sameNow d (enc a) (enc b) = some (decide (a = b))
  und : ∃ d, P.underlying K = some d
  eq : ∀ w a b, ok w a → ok w b → (Op.equal K (enc a) (enc b)).run P w = .ok (decide (a = b)) w
  chk : ∀ w e a, ok w a → (Instr.checkKey e 10000 K (enc a)).run P w = .ok () w
  same : ∀ a, Instr.sameBits 10000 (enc a) (enc a) = true

section
variable {P : Program} {K : TypeId} {α : Type} [DecidableEq α] {enc : α → Value} {ok : World → α → Prop}

/-- The place and the value at a key. -/
def find (m : List (α × Value)) (k : α) (i : Nat) : Option (Nat × Value) :=
  match m with
  | [] => none
  | p :: r => if k = p.1 then some (i, p.2) else find r k (i + 1)

def pairs (enc : α → Value) (es : List MapEntry) (m : List (α × Value)) : Prop := es.map (fun e => (e.key, e.val)) = m.map (fun p => (enc p.1, p.2))

theorem findAsking_run (L : KeyLaw P K enc ok) (w : World) (k : α) (hk : ok w k) : ∀ (es : List MapEntry) (m : List (α × Value)) (i : Nat), pairs enc es m → (∀ p ∈ m, ok w p.1) →
    (Instr.findAsking K (enc k) es i).run P w = .ok (find m k i) w
  | [], [], i, _, _ => rfl
  | [], p :: r, i, h, _ => by simp [pairs] at h
  | e :: es, [], i, h, _ => by simp [pairs] at h
  | e :: es, p :: r, i, h, hm => by
    simp only [pairs, List.map_cons, List.cons.injEq, Prod.mk.injEq] at h
    obtain ⟨⟨h1, h2⟩, h3⟩ := h
    have ih := findAsking_run L w k hk es r (i + 1) h3 (fun q hq => hm q (List.mem_cons_of_mem _ hq))
    have he := L.eq w k p.1 hk (hm p List.mem_cons_self)
    unfold Instr.findAsking find
    rw [h1]
    simp only [Sem.run_bind, he, Result.andThen_ok]
    by_cases hkp : k = p.1
    · simp [hkp, h2]
    · simp [hkp, ih]

theorem findNow_run (L : KeyLaw P K enc ok) {d : TypeDesc} (hd : P.underlying K = some d) (k : α) : ∀ (es : List MapEntry) (m : List (α × Value)) (i : Nat), pairs enc es m →
    Instr.findNow d (enc k) es i = none ∨ Instr.findNow d (enc k) es i = some (find m k i)
  | [], [], i, _ => .inr rfl
  | [], p :: r, i, h => by simp [pairs] at h
  | e :: es, [], i, h => by simp [pairs] at h
  | e :: es, p :: r, i, h => by
    simp only [pairs, List.map_cons, List.cons.injEq, Prod.mk.injEq] at h
    obtain ⟨⟨h1, h2⟩, h3⟩ := h
    have ih := findNow_run L hd k es r (i + 1) h3
    unfold Instr.findNow find
    rw [h1]
    rcases L.now d hd k p.1 with hn | hn
    · rw [hn]; exact .inl rfl
    · rw [hn]
      by_cases hkp : k = p.1
      · simp [hkp, h2]
      · simp only [hkp, decide_false, if_false]
        exact ih

theorem findKey_run (L : KeyLaw P K enc ok) (w : World) (k : α) (hk : ok w k) (es : List MapEntry) (m : List (α × Value)) (h : pairs enc es m) (hm : ∀ p ∈ m, ok w p.1) :
    (Instr.findKey K (enc k) es).run P w = .ok (find m k 0) w := by
  obtain ⟨d, hd⟩ := L.und
  have ha := findAsking_run L w k hk es m 0 h hm
  unfold Instr.findKey
  simp only [Sem.run_bind, run_underlying hd, Result.andThen_ok]
  rcases findNow_run L hd k es m 0 h with hn | hn
  · rw [hn]; exact ha
  · rw [hn]; rfl

theorem find_get (m : List (α × Value)) (k : α) : ∀ i, (find m k i).map (·.2) = get m k := by
  induction m with
  | nil => intro i; rfl
  | cons p r ih =>
    intro i
    unfold find get
    by_cases h : k = p.1
    · simp [h]
    · simp [h, Ne.symm h, ih]
theorem find_place (m : List (α × Value)) (k : α) : ∀ i j v, find m k i = some (j, v) → i ≤ j ∧ m[j - i]? = some (k, v) ∧ ∀ u, put m k u = m.set (j - i) (k, u) := by
  induction m with
  | nil => intro i j v h; cases h
  | cons p r ih =>
    intro i j v h
    unfold find at h
    by_cases hk : k = p.1
    · rw [if_pos hk] at h
      cases h
      refine ⟨Nat.le_refl _, by simp [hk], fun u => ?_⟩
      unfold put
      simp [hk]
    · rw [if_neg hk] at h
      obtain ⟨h1, h2, h3⟩ := ih (i + 1) j v h
      have e : j - i = (j - (i + 1)) + 1 := by omega
      refine ⟨by omega, by rw [e]; simpa using h2, fun u => ?_⟩
      unfold put
      rw [if_neg (Ne.symm hk), h3 u, e]
      rfl

/-- Block b of w is a map that holds these pairs. -/
def MapIs (enc : α → Value) (w : World) (b : Nat) (m : List (α × Value)) : Prop :=
  ∃ es clock, w.heap[b]? = some (.map es clock) ∧ pairs enc es.toList m ∧ (∀ e ∈ es.toList, e.born < clock) ∧ (es.toList.map (·.born)).Nodup

theorem MapIs.made (enc : α → Value) (w : World) : MapIs enc (w.alloc (.map #[] 0)) w.heap.size [] :=
  ⟨#[], 0, heap_alloc_new w _, by simp [pairs], by simp, by simp⟩
theorem MapIs.lt {enc : α → Value} {w : World} {b : Nat} {m : List (α × Value)} (h : MapIs enc w b m) : b < w.heap.size := by
  obtain ⟨es, c, hb, _⟩ := h
  exact (Array.getElem?_eq_some_iff.1 hb).1
theorem MapIs.of_block {enc : α → Value} {w w' : World} {b : Nat} {m : List (α × Value)} (h : MapIs enc w b m) (hb : w'.heap[b]? = w.heap[b]?) : MapIs enc w' b m := by
  obtain ⟨es, c, h1, h2⟩ := h
  exact ⟨es, c, hb.trans h1, h2⟩

theorem MapIs.len {enc : α → Value} {w : World} {b : Nat} {m : List (α × Value)} {es : Array MapEntry} {c : Nat} (hb : w.heap[b]? = some (.map es c)) (h : MapIs enc w b m) : es.size = m.length := by
  obtain ⟨es', c', h1, h2, _⟩ := h
  rw [hb] at h1
  cases h1
  have := congrArg List.length h2
  simpa using this

theorem getObj_run {w : World} {b : Nat} {es : Array MapEntry} {c : Nat} (hb : w.heap[b]? = some (.map es c)) : (getObj b).run P w = .ok (.map es c) w := by
  simp [getObj, Sem.run, hb]

/-- 'm[k]', with and without ok. -/
theorem MapIs.lookup (L : KeyLaw P K enc ok) {w : World} {b : Nat} {m : List (α × Value)} (h : MapIs enc w b m) (k : α) (hk : ok w k) (hm : ∀ p ∈ m, ok w p.1) {T E : TypeId} (hT : P.underlying T = some (.map K E)) {z : Value}
    (hz : (zeroValue E).run P w = .ok z w) (ok? : Bool) :
    (Instr.lookup T (.map (some b)) (enc k) ok?).run P w = .ok (if ok? then .tuple #[(get m k).getD z, .bool (get m k).isSome] else (get m k).getD z) w := by
  obtain ⟨es, c, hb, hp, _⟩ := h
  have hf := findKey_run L w k hk es.toList m hp hm
  have hc := L.chk w es.isEmpty k hk
  rw [← find_get m k 0]
  unfold Instr.lookup
  simp only [Sem.run_bind, run_underlying hT, Result.andThen_ok, getObj_run hb, Sem.run_pure, hc, hf]
  cases hfk : find m k 0 with
  | none => cases ok? <;> simp [hz]
  | some jv => cases ok? <;> simp

theorem lookup_nil (L : KeyLaw P K enc ok) {w : World} (k : α) (hk : ok w k) {T E : TypeId} (hT : P.underlying T = some (.map K E)) {z : Value}
    (hz : (zeroValue E).run P w = .ok z w) (ok? : Bool) :
    (Instr.lookup T (.map none) (enc k) ok?).run P w = .ok (if ok? then .tuple #[z, .bool false] else z) w := by
  have hc := L.chk w true k hk
  have hf := findKey_run L w k hk [] [] rfl (fun p hp => by cases hp)
  unfold Instr.lookup
  simp only [Sem.run_bind, run_underlying hT, Result.andThen_ok, Sem.run_pure]
  have e : (#[] : Array MapEntry).isEmpty = true := rfl
  rw [e]
  simp only [hc, Result.andThen_ok, hf, find]
  cases ok? <;> simp [hz]

/-- 'm[k] = v'. -/
theorem MapIs.update (L : KeyLaw P K enc ok) {w : World} {b : Nat} {m : List (α × Value)} (h : MapIs enc w b m) (k : α) (hk : ok w k) (hm : ∀ p ∈ m, ok w p.1) {T E : TypeId} (hT : P.underlying T = some (.map K E)) (v : Value) :
    ∃ w', (Instr.mapUpdate T (.map (some b)) (enc k) v).run P w = .ok () w' ∧ MapIs enc w' b (put m k v) ∧ w.grownBy w' (some b) ∧ w'.heap.size = w.heap.size := by
  obtain ⟨es, c, hb, hp, hl, hn⟩ := h
  have hf := findKey_run L w k hk es.toList m hp hm
  have hc := L.chk w false k hk
  have hlt : b < w.heap.size := (Array.getElem?_eq_some_iff.1 hb).1
  have hset : ∀ o : Obj, ({ w with heap := w.heap.setIfInBounds b o } : World).heap[b]? = some o := fun o => by
    simp [Array.getElem?_setIfInBounds, hlt]
  have hgr : ∀ o : Obj, w.grownBy { w with heap := w.heap.setIfInBounds b o } (some b) := fun o =>
    ⟨rfl, rfl, rfl, by simp, fun j _ hj => by
      have : b ≠ j := fun e => hj (by rw [e])
      simp [this]⟩
  have hso : ∀ o : Obj, (setObj b o).run P w = .ok () { w with heap := w.heap.setIfInBounds b o } := fun o => by
    simp [setObj, Sem.run, hb]
  cases hfk : find m k 0 with
  | none =>
    rw [hfk] at hf
    refine ⟨_, ?_, ⟨es.push { key := enc k, val := v, born := c }, c + 1, hset _, ?_, ?_, ?_⟩, hgr _, by simp⟩
    · unfold Instr.mapUpdate
      simp only [Sem.run_bind, run_underlying hT, Result.andThen_ok, getObj_run hb, hc, hf]
      exact hso _
    · have hg : get m k = none := by rw [← find_get m k 0, hfk]; rfl
      rw [length_put_none v hg]
      simp only [pairs, Array.toList_push, List.map_append, List.map_cons, List.map_nil]
      rw [hp]
    · intro e he
      simp only [Array.toList_push, List.mem_append, List.mem_singleton] at he
      rcases he with he | he
      · exact Nat.lt_succ_of_lt (hl e he)
      · subst he; exact Nat.lt_succ_self _
    · simp only [Array.toList_push, List.map_append, List.map_cons, List.map_nil]
      rw [List.nodup_append]
      refine ⟨hn, by simp, ?_⟩
      intro a ha x hx
      simp at hx
      subst hx
      obtain ⟨e, he, rfl⟩ := List.mem_map.1 ha
      have := hl e he
      omega
  | some jv =>
    obtain ⟨j, v0⟩ := jv
    rw [hfk] at hf
    obtain ⟨_, hj, hput⟩ := find_place m k 0 j v0 hfk
    rw [Nat.sub_zero] at hj hput
    have hpj : (es.toList.map (fun e => (e.key, e.val)))[j]? = some (enc k, v0) := by
      rw [hp, List.getElem?_map, hj]; rfl
    rw [List.getElem?_map, Option.map_eq_some_iff] at hpj
    obtain ⟨e0, he0, hek⟩ := hpj
    simp only [Prod.mk.injEq] at hek
    have hes : es[j]? = some e0 := by simpa using he0
    have hjl : j < es.size := (Array.getElem?_eq_some_iff.1 hes).1
    have hej : es[j] = e0 := (Array.getElem?_eq_some_iff.1 hes).2
    have hst : (Instr.keyThatStays (enc k) (enc k)).run P w = .ok (enc k) w := by
      unfold Instr.keyThatStays
      rw [L.same k]
      rfl
    have hmod : (es.modify j fun e => { e with key := enc k, val := v }).toList = es.toList.set j { e0 with key := enc k, val := v } := by
      rw [Array.toList_modify]
      apply List.ext_getElem?
      intro i
      rw [List.getElem?_modify, List.getElem?_set]
      by_cases hij : j = i
      · subst hij
        simp [hej, hjl]
      · simp [hij]
    refine ⟨_, ?_, ⟨es.modify j fun e => { e with key := enc k, val := v }, c, hset _, ?_, ?_, ?_⟩, hgr _, by simp⟩
    · unfold Instr.mapUpdate
      simp only [Sem.run_bind, run_underlying hT, Result.andThen_ok, getObj_run hb, hc, hf]
      simp only [hes, Option.map_some, Option.getD_some, hek.1, hst, Result.andThen_ok]
      exact hso _
    · rw [hput v]
      simp only [pairs, hmod, List.map_set]
      rw [hp]
    · intro e he
      rw [hmod] at he
      rcases List.mem_or_eq_of_mem_set he with he | he
      · exact hl e he
      · subst he
        exact hl e0 (List.mem_of_getElem? he0)
    · rw [hmod]
      simp only [List.map_set]
      have : (es.toList.map (·.born)).set j e0.born = es.toList.map (·.born) := by
        apply List.ext_getElem?
        intro i
        rw [List.getElem?_set]
        by_cases hij : j = i
        · subst hij; simp [hej, hjl]
        · simp [hij]
      rw [this]
      exact hn
end
end Go.Proofs.Ts
/- The key laws of the maps that the program uses: by a node's address, by a node's shape, by a word. -/
set_option linter.unusedVariables false
namespace Go.Proofs.Ts
open Go Go.RowKit

abbrev Shape := Bool × List UInt8
def strV (l : List UInt8) : Value := .string ⟨l.toArray⟩
def shapeV (s : Shape) : Value := .agg #[.bool s.1, strV s.2]
def ptrV (b : Nat) : Value := .pointer (some ⟨b, 0, none⟩)

theorem checkKey_zero (P : Program) (e : Bool) (n : Nat) (t : TypeId) (v : Value) (w : World) {d : TypeDesc} (ht : P.underlying t = some d) (h : (match d with | .interface _ | .array _ _ | .struct _ => false | _ => true) = true) :
    (Instr.checkKey e (n + 1) t v).run P w = .ok () w := by
  unfold Instr.checkKey
  simp only [Sem.run_bind, run_underlying ht, Result.andThen_ok]
  cases d <;> first | (simp at h; done) | (cases v <;> rfl)

theorem shape_law : KeyLaw Tryz.prog 252 shapeV (fun _ _ => True) where
  now := fun d hd a b => by
    left
    rw [Tryz.underlying252] at hd
    cases hd
    rfl
  und := ⟨_, Tryz.underlying252⟩
  eq := fun w a b _ _ => by
    obtain ⟨f, s⟩ := a
    obtain ⟨g, t⟩ := b
    unfold shapeV strV
    simp [go_sem, Op.equal, Op.maxDepth]
    by_cases h1 : f = g <;> by_cases h2 : s = t <;> simp [h1, h2]
  chk := fun w e a _ => by
    unfold shapeV strV
    rw [show (10000 : Nat) = 9999 + 1 from rfl]
    unfold Instr.checkKey
    simp [go_sem, checkKey_zero Tryz.prog e 9998 4 _ _ Tryz.underlying4 rfl, checkKey_zero Tryz.prog e 9998 9 _ _ Tryz.underlying9 rfl]
  same := fun a => by
    unfold shapeV strV
    have h : (({ data := a.snd.toArray } : ByteArray) == { data := a.snd.toArray }) = true := by rw [beq_toListBytes]; simp
    simp [Instr.sameBits, h]

/-- The block of a pointer is a row of cells. -/
def cellsAt (w : World) (b : Nat) : Prop := ∃ cs t, w.heap[b]? = some (.cells cs t (0, 0))

theorem ptr_law {K E : TypeId} {j : TypeInfo} (hK : Tryz.prog.underlying K = some (.pointer E)) (hE : Tryz.prog.info? E = some j) (hj : j.size ≠ 0) : KeyLaw Tryz.prog K ptrV cellsAt where
  now := fun d hd a b => by
    left
    rw [hK] at hd
    cases hd
    rfl
  und := ⟨_, hK⟩
  eq := fun w a b ha hb => by
    obtain ⟨ca, ta, ha⟩ := ha
    obtain ⟨cb, tb, hb⟩ := hb
    unfold ptrV
    have hne : ∀ (a b : Nat), a ≠ b → (⟨a, 0, none⟩ : Addr) ≠ ⟨b, 0, none⟩ := fun a b h e => h (congrArg Addr.block e)
    have step : ∀ (x y : Addr), (Op.equalIn (9999 + 1) K (.pointer (some x)) (.pointer (some y))).run Tryz.prog w = (sameAddr x y).run Tryz.prog w := fun x y => by
      rw [Op.equalIn]
      simp only [Sem.run_bind, run_underlying hK, Result.andThen_ok, sizeOf, typeInfo, run_program, hE, Sem.run_pure, Sem.run_map]
      simp [hj]
    have eq1 : ∀ (x y : Addr), (Op.equal K (.pointer (some x)) (.pointer (some y))).run Tryz.prog w = (sameAddr x y).run Tryz.prog w := fun x y => step x y
    rw [eq1]
    by_cases h : a = b
    · subst h
      rw [run_sameAddr_same]
      simp
    · rw [run_sameAddr_other w (hne a b h) ha hb]
      simp [h]
  chk := fun w e a _ => checkKey_zero _ e 9999 K _ w hK rfl
  same := fun a => by simp [ptrV, Instr.sameBits]

theorem Tryz.info192 : (Tryz.prog.info? 192).map (fun i => (i.zero, i.size, i.bytes)) = some (some (.agg #[.bool false, .slice none 0 0]), 2, 32) := by kernel_rfl
theorem node_law : KeyLaw Tryz.prog 189 ptrV cellsAt := by
  obtain ⟨i, hi, _, hs, _⟩ := info_parts Tryz.info192
  exact ptr_law Tryz.underlying189 hi (by rw [hs]; decide)

theorem str_law : KeyLaw Tryz.prog 9 strV (fun _ _ => True) where
  now := fun d hd a b => by
    right
    rw [Tryz.underlying9] at hd
    cases hd
    unfold strV
    show some (_ == _) = _
    rw [beq_toListBytes]
    congr 1
    rw [Bool.eq_iff_iff]
    simp
  und := ⟨_, Tryz.underlying9⟩
  eq := fun w a b _ _ => by
    unfold strV
    simp [go_sem, Op.equal, Op.maxDepth]
    rw [Bool.eq_iff_iff]
    simp
  chk := fun w e a _ => checkKey_zero _ e 9999 _ _ w Tryz.underlying9 rfl
  same := fun a => by
    unfold strV
    have h : (({ data := a.toArray } : ByteArray) == { data := a.toArray }) = true := by rw [beq_toListBytes]; simp
    simp [Instr.sameBits, h]
end Go.Proofs.Ts
/- append onto a row of one's own, and where the new row lies. No program of its own. -/
set_option linter.unusedSectionVars false
set_option linter.unusedVariables false
set_option linter.unusedSimpArgs false
namespace Go.Proofs.Ts
open Go Go.RowKit

/-- Where a row that was appended to lies: where it lay, or in a new block behind all. -/
def Lies (w w' : World) (v v' : Value) : Prop :=
  (v'.ownBlock = v.ownBlock ∧ w'.heap.size = w.heap.size) ∨ (v'.ownBlock = some w.heap.size ∧ w.grownBy w' none ∧ w'.heap.size = w.heap.size + 1)

section
variable {P : Program} {w : World}
theorem run_append_lies (t ty e : TypeId) (i : TypeInfo) (z : Value) (size bytes : Nat) (ht : P.underlying t = some (.slice e)) (hi : P.info? e = some i) (hz : i.zero = some z)
    (hsize : i.size = size) (hby : i.bytes = bytes) (hzs : z.cells.size = size) (hsz : 0 < size)
    (v : Value) (n : Nat) (xs : List Value) (hown : w.ownsRow 0 e size v n xs)
    (a : Addr) (m c : Nat) (news : List Value) (hl : news.length = m * size) (hnews : ∀ j u, news[j]? = some u → w.cell? (a.add j) = some u) (h1 : ∀ u ∈ news, u.oneCell' = true)
    (hm : 0 < m) (h63 : n + m ≤ maxLen) (hbytes : (n + m) * bytes ≤ 140737488355328) :
    ∃ v' w', (Builtin.append_ #[t, t] ty #[v, .slice (some a) m c]).run P w = .ok v' w' ∧ w'.ownsRow 0 e size v' (n + m) (xs ++ news) ∧ w.grownBy w' v.ownBlock ∧ Lies w w' v v' := by
  subst hsize
  subst hby
  have hsmall : n + m ≤ 9223372036854775807 := by simp only [maxLen] at h63; omega
  have hlen : (xs ++ news).length = (n + m) * i.size := by rw [List.length_append, hown.1, hl, Nat.add_mul]
  have grown : ∀ (old : Nat), old < n + m →
      (w.drew.alloc (.cells (xs.toArray ++ news.toArray ++ Builtin.zeroCells z.cells (grownCap w (n + m) old e - (n + m))) e)).ownsRow 0 e i.size
        (.slice (some ⟨w.heap.size, 0, none⟩) (n + m) (grownCap w (n + m) old e)) (n + m) (xs ++ news) := by
    intro old ho
    have hge := grownCap_ge w (n + m) old e
    have hcm : grownCap w (n + m) old e ≤ maxLen := grownCap_le_maxLen w (n + m) old e h63
    refine ⟨hlen, .inr ⟨w.heap.size, _, _, rfl, Nat.zero_le _, heap_alloc_new w.drew _, hge, hcm, ?_, ?_⟩⟩
    · simp only [Array.size_append, List.size_toArray, size_zeroCells, hzs, hown.1, hl, ← Nat.add_mul]
      congr 1
      omega
    · simp only [Array.toList_append, List.append_assoc]
      rw [← List.append_assoc, ← hlen]
      exact List.take_left
  have gb : ∀ (o : Obj) (row : Option Nat), w.grownBy (w.drew.alloc o) row := fun o row => ⟨rfl, rfl, rfl, by simp, fun k hk _ => Below.heap_alloc w.drew _ k hk⟩
  rcases hown.2 with ⟨rfl, rfl⟩ | ⟨g, cap, cur, rfl, hbg, hg, hnc, hcm, hcs, htake⟩
  · have hx : xs = [] := List.eq_nil_of_length_eq_zero (by simpa using hown.1)
    subst hx
    have hr := run_append_nil (P := P) w t ty e i z ht hi hz a m c news hl hnews (by omega) (by omega) (by have hb := hbytes; simp only [Nat.zero_add] at hb; omega)
    have hgr := grown 0 (by omega)
    simp only [Nat.zero_add, List.nil_append, Array.empty_append] at hgr ⊢
    exact ⟨_, _, hr, hgr, gb _ _, .inr ⟨rfl, gb _ _, by simp⟩⟩
  · by_cases hroom : n + m ≤ cap
    · have hfit : n * i.size + news.length ≤ cur.size := by rw [hl, hcs, ← Nat.add_mul]; exact Nat.mul_le_mul_right _ hroom
      have hr := run_append_room (P := P) w t ty e i ht hi g n cap cur hg a m c news hl hnews h1 hroom hfit
      refine ⟨_, _, hr, ⟨hlen, .inr ⟨g, cap, _, rfl, hbg, setRow_heap w g cur _ e _ hg, hroom, hcm, ?_, ?_⟩⟩, ⟨rfl, rfl, rfl, by simp, fun k _ hk => setRow_other w g k _ (fun e => hk (by simp [Value.ownBlock, e]))⟩, .inl ⟨rfl, by simp⟩⟩
      · simp only [List.size_toArray, List.length_append, List.length_take, List.length_drop, Array.length_toList]
        omega
      · rw [htake, ← hlen]
        exact List.take_left
    · have holds : ∀ j u, xs[j]? = some u → w.cell? ((⟨g, 0, none⟩ : Addr).add j) = some u := hown.cells (g := g) rfl
      have hr := run_append_grow (P := P) w t ty e i z ht hi hz ⟨g, 0, none⟩ n cap xs hown.1 holds a m c news hl hnews (by omega) (by omega) (growslice_fits (by omega) hbytes)
      exact ⟨_, _, hr, grown cap (by omega), gb _ _, .inr ⟨rfl, gb _ _, by simp⟩⟩

/-- 'append(s, x..)' AT THE OPERATION. -/
theorem wpList_append_lies {ops : Array Oper} {rest : List Oper} {o : Oper} {a : Act} {Q : Exit → Act → World → Prop} (hgd : o.guard = none) (s x : Operand) (t : TypeId)
    (ho : o.op = .call { callee := .builtin .append, args := #[s, x], argTypes := #[t, t] })
    (e : TypeId) (i : TypeInfo) (z : Value) (size bytes : Nat) (ht : P.underlying t = some (.slice e)) (hi : P.info? e = some i) (hz : i.zero = some z)
    (hsize : i.size = size) (hby : i.bytes = bytes) (hzs : z.cells.size = size) (hsz : 0 < size)
    (v : Value) (n : Nat) (xs : List Value) (hs : a.eval s = v) (hown : w.ownsRow 0 e size v n xs)
    (ad : Addr) (m c : Nat) (news : List Value) (hx : a.eval x = .slice (some ad) m c) (hl : news.length = m * size) (hnews : ∀ j u, news[j]? = some u → w.cell? (ad.add j) = some u) (h1 : ∀ u ∈ news, u.oneCell' = true)
    (hm : 0 < m) (h63 : n + m ≤ maxLen) (hbytes : (n + m) * bytes ≤ 140737488355328)
    (h : ∀ v' w', w'.ownsRow 0 e size v' (n + m) (xs ++ news) → w.grownBy w' v.ownBlock → Lies w w' v v' → wpList P ops Q rest (a.put o.dst v') w') : wpList P ops Q (o :: rest) a w := by
  refine wpList_plain hgd fun K hK => ?_
  obtain ⟨v', w', hr, h2, h3, h4⟩ := run_append_lies (P := P) t o.type e i z size bytes ht hi hz hsize hby hzs hsz v n xs hown ad m c news hl hnews h1 hm h63 hbytes
  unfold Oper.wp execOp
  simp only [ho, resolve, invoke, builtin, Sem.run_bind, Sem.run_pure, Result.andThen_ok, List.map_toArray, List.map_cons, List.map_nil, hs, hx, hr]
  exact hK _ _ (h v' w' h2 h3 h4)
end

/-- The same law on the operation alone. -/
theorem wp_append_lies {P : Program} {w : World} {o : Oper} {a : Act} {K : Act → World → Prop} {Q : Exit → Act → World → Prop} (s x : Operand) (t : TypeId)
    (ho : o.op = .call { callee := .builtin .append, args := #[s, x], argTypes := #[t, t] })
    (e : TypeId) (i : TypeInfo) (z : Value) (size bytes : Nat) (ht : P.underlying t = some (.slice e)) (hi : P.info? e = some i) (hz : i.zero = some z)
    (hsize : i.size = size) (hby : i.bytes = bytes) (hzs : z.cells.size = size) (hsz : 0 < size)
    (v : Value) (n : Nat) (xs : List Value) (hs : a.eval s = v) (hown : w.ownsRow 0 e size v n xs)
    (ad : Addr) (m c : Nat) (news : List Value) (hx : a.eval x = .slice (some ad) m c) (hl : news.length = m * size) (hnews : ∀ j u, news[j]? = some u → w.cell? (ad.add j) = some u) (h1 : ∀ u ∈ news, u.oneCell' = true)
    (hm : 0 < m) (h63 : n + m ≤ maxLen) (hbytes : (n + m) * bytes ≤ 140737488355328)
    (h : ∀ v' w', w'.ownsRow 0 e size v' (n + m) (xs ++ news) → w.grownBy w' v.ownBlock → Lies w w' v v' → K (a.put o.dst v') w') : o.wp P a w K Q := by
  obtain ⟨v', w', hr, h2, h3, h4⟩ := run_append_lies (P := P) t o.type e i z size bytes ht hi hz hsize hby hzs hsz v n xs hown ad m c news hl hnews h1 hm h63 hbytes
  unfold Oper.wp execOp
  simp only [ho, resolve, invoke, builtin, Sem.run_bind, Sem.run_pure, Result.andThen_ok, List.map_toArray, List.map_cons, List.map_nil, hs, hx, hr]
  exact h v' w' h2 h3 h4

/-- From one world to another a row has been appended to: of old blocks only its own has turned; it lies where it lay, or in a new block. -/
structure Moves (w : World) (v : Value) (w' : World) (v' : Value) : Prop where
  grown : w.grownBy w' v.ownBlock
  lies : v'.ownBlock = v.ownBlock ∨ ∃ g, v'.ownBlock = some g ∧ w.heap.size ≤ g
theorem Moves.refl (w : World) (v : Value) : Moves w v w v := ⟨World.grownBy.refl _ _, .inl rfl⟩
theorem Moves.alloc (w : World) (v : Value) (o : Obj) : Moves w v (w.alloc o) v := ⟨World.grownBy_alloc _ _ _, .inl rfl⟩
theorem Moves.same {w w' : World} (v : Value) (h : Same w w') : Moves w v w' v := by
  obtain ⟨n, rfl⟩ := h
  exact ⟨⟨rfl, rfl, rfl, Nat.le_refl _, fun _ _ _ => rfl⟩, .inl rfl⟩
theorem Moves.append {w w' : World} {v v' : Value} (h : w.grownBy w' v.ownBlock) (hl : Lies w w' v v') : Moves w v w' v' := by
  refine ⟨h, ?_⟩
  rcases hl with ⟨h1, _⟩ | ⟨h1, _⟩
  · exact .inl h1
  · exact .inr ⟨_, h1, Nat.le_refl _⟩
theorem Moves.trans {a b c : World} {u v x : Value} (h : Moves a u b v) (k : Moves b v c x) : Moves a u c x := by
  obtain ⟨g1, l1⟩ := h
  obtain ⟨g2, l2⟩ := k
  refine ⟨⟨g2.os.trans g1.os, g2.tape.trans g1.tape, g2.output.trans g1.output, Nat.le_trans g1.size g2.size, fun j hj hn => ?_⟩, ?_⟩
  · refine (g2.block j (Nat.lt_of_lt_of_le hj g1.size) ?_).trans (g1.block j hj hn)
    rcases l1 with l1 | ⟨g, l1, hg⟩
    · rw [l1]; exact hn
    · rw [l1]; intro e; cases e; omega
  · rcases l2 with l2 | ⟨g, l2, hg⟩
    · rw [l2]; exact l1
    · exact .inr ⟨g, l2, Nat.le_trans g1.size hg⟩
theorem Moves.block {a b : World} {u v : Value} (h : Moves a u b v) {j : Nat} (hj : j < a.heap.size) (hn : u.ownBlock ≠ some j) : b.heap[j]? = a.heap[j]? := h.grown.block j hj (Ne.symm hn)
theorem Moves.size {a b : World} {u v : Value} (h : Moves a u b v) : a.heap.size ≤ b.heap.size := h.grown.size

/-- The row of one's own lies at or beyond B. -/
def Past (B : Nat) (v : Value) : Prop := ∀ k, v.ownBlock = some k → B ≤ k
theorem Moves.past {B : Nat} {a b : World} {u v : Value} (h : Moves a u b v) (hp : Past B u) (hB : B ≤ a.heap.size) : Past B v := by
  intro k hk
  rcases h.lies with h1 | ⟨g, h1, hg⟩
  · exact hp k (h1 ▸ hk)
  · rw [h1] at hk; cases hk; omega
theorem Moves.below {B : Nat} {z a b : World} {u v : Value} (h : Moves a u b v) (hp : Past B u) (hb : Below B z a) (hB : B ≤ a.heap.size) : Below B z b := hb.grown h.grown hB hp

/-- Its cells, one by one. -/
theorem ownsRow_head {w : World} {B e size n : Nat} {v : Value} {xs : List Value} (h : w.ownsRow B e size v (n + 1) xs) : ∃ g cap, v = .slice (some ⟨g, 0, none⟩) (n + 1) cap := by
  rcases h.2 with ⟨_, h0⟩ | ⟨g, cap, cur, rfl, _⟩
  · cases h0
  · exact ⟨g, cap, rfl⟩
theorem ownsRow_form {w : World} {B e size n : Nat} {v : Value} {xs : List Value} (h : w.ownsRow B e size v n xs) : ∃ a cap, v = .slice a n cap := by
  rcases h.2 with ⟨rfl, rfl⟩ | ⟨g, cap, cur, rfl, _⟩
  · exact ⟨_, _, rfl⟩
  · exact ⟨_, cap, rfl⟩
theorem ownsRow_zero {w : World} {B e size n : Nat} {v : Value} {xs : List Value} (h : w.ownsRow B e size v n xs) : w.ownsRow 0 e size v n xs := by
  refine ⟨h.1, ?_⟩
  rcases h.2 with h0 | ⟨g, cap, cur, h1, _, h2⟩
  · exact .inl h0
  · exact .inr ⟨g, cap, cur, h1, Nat.zero_le _, h2⟩
theorem ownsRow_base {w : World} {B e size n : Nat} {v : Value} {xs : List Value} (h : w.ownsRow 0 e size v n xs) (hB : ∀ k, v.ownBlock = some k → B ≤ k) : w.ownsRow B e size v n xs := by
  refine ⟨h.1, ?_⟩
  rcases h.2 with h0 | ⟨g, cap, cur, h1, _, h2⟩
  · exact .inl h0
  · subst h1
    exact .inr ⟨g, cap, cur, rfl, hB g rfl, h2⟩
theorem ownsRow_block {w w' : World} {B e size n : Nat} {v : Value} {xs : List Value} (h : w.ownsRow B e size v n xs) (hb : ∀ k, v.ownBlock = some k → w'.heap[k]? = w.heap[k]?) : w'.ownsRow B e size v n xs := by
  refine ⟨h.1, ?_⟩
  rcases h.2 with h0 | ⟨g, cap, cur, h1, h2, h3, h4⟩
  · exact .inl h0
  · subst h1
    exact .inr ⟨g, cap, cur, rfl, h2, (hb g rfl).trans h3, h4⟩
end Go.Proofs.Ts
