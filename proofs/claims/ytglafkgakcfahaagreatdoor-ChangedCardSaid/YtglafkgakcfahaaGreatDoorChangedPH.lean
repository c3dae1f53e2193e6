/- Lemmas towards the statement Changed of termsearch: walks of the program's functions and plain laws on lists (TsWalk, TsAutB, TsOver, TsBuildRow). Conditions: those that each theorem names. -/
import Derived.Test.YtglafkgakcfahaaGreatDoorChangedPC
import Derived.Test.YtglafkgakcfahaaGreatDoorChangedPD
import Derived.Test.YtglafkgakcfahaaGreatDoorChangedPF
import Derived.Test.YtglafkgakcfahaaGreatDoorChangedPG
import Derived.Deep.CutBlock
import Derived.Deep.DeepCutAuto
import Derived.Laws.Tables
/- The walk of an automaton over a dictionary (states that are numbers). -/
set_option linter.unusedVariables false
set_option linter.unusedSimpArgs false
namespace Go.Proofs.Ts
open Go Go.RowKit

/-- The types whose rows and boxes a walk leans on. -/
def leansOn (t : TypeId) : Bool := [148, 151, 153, 85, 206, 127, 207, 5,
  211, 212, 347, 348, 354, 355,
  294, 297, 367, 21, 276, 135, 313, 272].contains t

/-- What a round of the walk's caller keeps: rows and boxes of the walk's types. -/
def KeepT (w w' : World) : Prop := w.heap.size ≤ w'.heap.size ∧ ∀ (k : Nat) cs t r, w.heap[k]? = some (.cells cs t r) → leansOn t = true → w'.heap[k]? = w.heap[k]?
/-- .. but for one block (that of the way so far). -/
def KeepB (v : Value) (w w' : World) : Prop := w.heap.size ≤ w'.heap.size ∧ ∀ (k : Nat) cs t r, w.heap[k]? = some (.cells cs t r) → leansOn t = true → v.ownBlock ≠ some k → w'.heap[k]? = w.heap[k]?
/-- What the walk itself does to memory: bytes beyond B, and new blocks. -/
def StepsB (B : Nat) (w w' : World) : Prop := w'.os = w.os ∧ w'.tape = w.tape ∧ w'.output = w.output ∧ w.heap.size ≤ w'.heap.size ∧ ∀ (k : Nat) o, w.heap[k]? = some o → (k < B ∨ ∀ cs r, o ≠ .cells cs 5 r) → w'.heap[k]? = some o

/-- An automaton whose states are numbers, behind an interface value. -/
structure AutI (iv : Value) (ok : Nat → Prop) (step : Nat → UInt8 → Option Nat) (ends : Nat → Bool) : Prop where
  ex : ∃ T v fE fT rE rT, iv = .iface T v ∧ (∀ fu w, (method (fu + 1) T v "Ends").run Tryz.prog w = .ok (fE, rE) w) ∧ (∀ fu w, (method (fu + 1) T v "Step").run Tryz.prog w = .ok (fT, rT) w) ∧
    (∀ args w, (callFunc fE args).run Tryz.prog w = .ok (.enter fE args) w) ∧ (∀ args w, (callFunc fT args).run Tryz.prog w = .ok (.enter fT args) w) ∧
    (∀ s w, ok s → Calls Tryz.prog fE #[rE, .int .i64 s] w fun e w' => e = .returned (.bool (ends s)) ∧ Same w w') ∧
    ∀ s c w, ok s → Calls Tryz.prog fT #[rT, .int .i64 s, .int .u8 (UInt8.toNat c)] w fun e w' => (∃ t : Nat, e = .returned (.tuple #[.int .i64 t, .bool (step s c).isSome]) ∧ ∀ u, step s c = some u → t = u) ∧ Same w w'
  next : ∀ s c t, ok s → step s c = some t → ok t
  few : ∀ s, ok s → s ≤ 1000000

/-- The memory that the walk reads. -/
structure WM (V : Value) (D : List DS) (db : Nat) (iv yf : Value) (bd ba by' bw : Nat) (w : World) : Prop where
  dct : w.heap[db]? = some (.cells #[V] 148 (0, 0))
  rows : RowsIn 0 w V D
  bxd : w.heap[bd]? = some (.cells #[ptrV db] 85 (0, 0))
  bxa : w.heap[ba]? = some (.cells #[iv] 206 (0, 0))
  bxy : w.heap[by']? = some (.cells #[yf] 127 (0, 0))
  bxw : w.heap[bw]? = some (.cells #[.func (.func 91) #[] #[ptrV bd, ptrV ba, ptrV by', ptrV bw]] 207 (0, 0))

def bytesV (p : List UInt8) : List Value := p.map fun c => .int .u8 c.toNat
theorem KeepT.refl (w : World) : KeepT w w := ⟨Nat.le_refl _, fun _ _ _ _ _ _ => rfl⟩
theorem KeepT.toB {w w' : World} (h : KeepT w w') (v : Value) : KeepB v w w' := ⟨h.1, fun k cs t r h1 h2 _ => h.2 k cs t r h1 h2⟩
theorem KeepT.same {w w' : World} (h : Same w w') : KeepT w w' := by
  obtain ⟨n, rfl⟩ := h
  exact ⟨Nat.le_refl _, fun _ _ _ _ _ _ => rfl⟩
theorem KeepT.trans {a b c : World} (h : KeepT a b) (k : KeepT b c) : KeepT a c := ⟨Nat.le_trans h.1 k.1, fun j cs t r h1 h2 => (k.2 j cs t r ((h.2 j cs t r h1 h2).trans h1) h2).trans (h.2 j cs t r h1 h2)⟩
theorem KeepB.refl (v : Value) (w : World) : KeepB v w w := (KeepT.refl w).toB v
theorem KeepB.trans {v : Value} {a b c : World} (h : KeepB v a b) (k : KeepB v b c) : KeepB v a c := ⟨Nat.le_trans h.1 k.1, fun j cs t r h1 h2 h3 => (k.2 j cs t r ((h.2 j cs t r h1 h2 h3).trans h1) h2 h3).trans (h.2 j cs t r h1 h2 h3)⟩
theorem KeepT.row {w w' : World} {B e size n : Nat} {v : Value} {xs : List Value} (h : KeepT w w') (he : leansOn e = true) (hr : w.ownsRow B e size v n xs) : w'.ownsRow B e size v n xs := ownsRow_typed hr fun k cs r hk => h.2 k cs _ r hk he
theorem StepsB.refl (B : Nat) (w : World) : StepsB B w w := ⟨rfl, rfl, rfl, Nat.le_refl _, fun _ _ h _ => h⟩
theorem StepsB.same {B : Nat} {w w' : World} (h : Same w w') : StepsB B w w' := by
  obtain ⟨n, rfl⟩ := h
  exact ⟨rfl, rfl, rfl, Nat.le_refl _, fun _ _ h _ => h⟩
theorem StepsB.alloc (B : Nat) (w : World) (o : Obj) : StepsB B w (w.alloc o) := ⟨rfl, rfl, rfl, by simp, fun k o' h _ => (Below.heap_alloc w o k (Array.getElem?_eq_some_iff.1 h).1).trans h⟩
theorem StepsB.trans {B : Nat} {a b c : World} (h : StepsB B a b) (k : StepsB B b c) : StepsB B a c :=
  ⟨k.1.trans h.1, k.2.1.trans h.2.1, k.2.2.1.trans h.2.2.1, Nat.le_trans h.2.2.2.1 k.2.2.2.1, fun j o h1 h2 => k.2.2.2.2 j o (h.2.2.2.2 j o h1 h2) h2⟩
/-- A row of bytes beyond B is appended to. -/
theorem StepsB.moves {B n : Nat} {w w' : World} {v v' : Value} {xs : List Value} (h : Moves w v w' v') (hr : w.ownsRow 0 5 1 v n xs) (hp : Past B v) : StepsB B w w' := by
  refine ⟨h.grown.os, h.grown.tape, h.grown.output, h.grown.size, fun k o h1 h2 => (h.block (Array.getElem?_eq_some_iff.1 h1).1 fun e => ?_).trans h1⟩
  rcases h2 with h2 | h2
  · have := hp k e; omega
  · rcases hr.2 with ⟨rfl, _⟩ | ⟨g, cap, cur, rfl, _, hg, _⟩
    · cases e
    · cases e
      rw [hg] at h1
      cases h1
      exact h2 _ _ rfl
theorem KeepB.moves {w w' : World} {v v' : Value} (h : Moves w v w' v') : KeepB v w w' := ⟨h.size, fun k cs t r h1 _ h3 => h.block (Array.getElem?_eq_some_iff.1 h1).1 h3⟩
theorem KeepT.alloc (w : World) (o : Obj) : KeepT w (w.alloc o) := ⟨by simp, fun k cs t r h _ => Below.heap_alloc w o k (Array.getElem?_eq_some_iff.1 h).1⟩

/-- What is kept of memory but for bytes. -/
def KeepG (w w' : World) : Prop := ∀ (k : Nat) cs t r, w.heap[k]? = some (.cells cs t r) → leansOn t = true → t ≠ 5 → w'.heap[k]? = w.heap[k]?
theorem KeepG.below {w w' : World} (h : Below w.heap.size w w') : KeepG w w' := fun k cs t r hk _ _ => h.block k (Array.getElem?_eq_some_iff.1 hk).1
theorem KeepG.trans {a b c : World} (h : KeepG a b) (k : KeepG b c) : KeepG a c := fun j cs t r h1 h2 h3 => (k j cs t r ((h j cs t r h1 h2 h3).trans h1) h2 h3).trans (h j cs t r h1 h2 h3)
theorem KeepT.g {w w' : World} (h : KeepT w w') : KeepG w w' := fun k cs t r h1 h2 _ => h.2 k cs t r h1 h2
theorem KeepB.g {w w' : World} {v : Value} {n : Nat} {xs : List Value} (h : KeepB v w w') (hr : w.ownsRow 0 5 1 v n xs) : KeepG w w' := fun k cs t r h1 h2 h3 => h.2 k cs t r h1 h2 fun e => by
  rcases hr.2 with ⟨rfl, _⟩ | ⟨g, cap, cur, rfl, _, hg, _⟩
  · cases e
  · cases e
    rw [hg] at h1
    cases h1
    exact h3 rfl
theorem KeepT.below {w w' : World} (h : Below w.heap.size w w') : KeepT w w' := ⟨h.size, fun k cs t r hk _ => h.block k (Array.getElem?_eq_some_iff.1 hk).1⟩
theorem StepsB.below {B : Nat} {w w' : World} (h : Below w.heap.size w w') : StepsB B w w' := ⟨h.os, h.tape, h.output, h.size, fun k o hk _ => (h.block k (Array.getElem?_eq_some_iff.1 hk).1).trans hk⟩

theorem WM.kept {V : Value} {D : List DS} {db : Nat} {iv yf : Value} {bd ba by' bw n : Nat} {w w' : World} {v : Value} {xs : List Value} (h : WM V D db iv yf bd ba by' bw w) (hr : w.ownsRow 0 5 1 v n xs) (hk : KeepB v w w') : WM V D db iv yf bd ba by' bw w' := by
  have ne : ∀ (k : Nat) cs t r, w.heap[k]? = some (.cells cs t r) → t ≠ 5 → v.ownBlock ≠ some k := fun k cs t r h1 h2 e => by
    rcases hr.2 with ⟨rfl, _⟩ | ⟨g, cap, cur, rfl, _, hg, _⟩
    · cases e
    · cases e
      rw [hg] at h1
      cases h1
      exact h2 rfl
  have go : ∀ (k : Nat) cs t r, w.heap[k]? = some (.cells cs t r) → leansOn t = true → t ≠ 5 → w'.heap[k]? = some (.cells cs t r) := fun k cs t r h1 h2 h3 => (hk.2 k cs t r h1 h2 (ne k cs t r h1 h3)).trans h1
  have gr : ∀ {e size n : Nat} {u : Value} {ys : List Value}, leansOn e = true → e ≠ 5 → w.ownsRow 0 e size u n ys → w'.ownsRow 0 e size u n ys := fun h1 h2 h3 => ownsRow_typed h3 fun k cs r h4 => (go k cs _ r h4 h1 h2).trans h4.symm
  exact ⟨go _ _ _ _ h.dct (by decide) (by decide), ⟨gr (by decide) (by decide) h.rows.row, h.rows.past, fun i s hi => gr (by decide) (by decide) (h.rows.erow i s hi), h.rows.epast, h.rows.apart, h.rows.apartV⟩, go _ _ _ _ h.bxd (by decide) (by decide), go _ _ _ _ h.bxa (by decide) (by decide), go _ _ _ _ h.bxy (by decide) (by decide), go _ _ _ _ h.bxw (by decide) (by decide)⟩

/-- Where a walk stands: what has been handed over, and the memory. -/
structure WAt (V : Value) (D : List DS) (db : Nat) (iv yf : Value) (bd ba by' bw B : Nat) (p : List UInt8) (pv : Value) (J : List (List UInt8 × Nat) → World → Prop) (w0 : World) (ys : List (List UInt8 × Nat)) (w : World) : Prop where
  wm : WM V D db iv yf bd ba by' bw w
  row : w.ownsRow 0 5 1 pv p.length (bytesV p)
  keep : KeepB pv w0 w
  j : J ys w
  size : B ≤ w.heap.size
theorem WAt.same {V : Value} {D : List DS} {db : Nat} {iv yf : Value} {bd ba by' bw B : Nat} {p : List UInt8} {pv : Value} {J : List (List UInt8 × Nat) → World → Prop} {w0 : World} {ys : List (List UInt8 × Nat)} {w w' : World} (h : WAt V D db iv yf bd ba by' bw B p pv J w0 ys w)
    (hJ : ∀ ys w w', J ys w → StepsB B w w' → J ys w') (hS : Same w w') : WAt V D db iv yf bd ba by' bw B p pv J w0 ys w' :=
  ⟨h.wm.kept h.row ((KeepT.same hS).toB pv), (KeepT.same hS).row (by decide) h.row, h.keep.trans ((KeepT.same hS).toB pv), hJ _ _ _ h.j (StepsB.same hS), by rw [hS.heap]; exact h.size⟩
theorem WAt.below {V : Value} {D : List DS} {db : Nat} {iv yf : Value} {bd ba by' bw B : Nat} {p : List UInt8} {pv : Value} {J : List (List UInt8 × Nat) → World → Prop} {w0 : World} {ys : List (List UInt8 × Nat)} {w w' : World} (h : WAt V D db iv yf bd ba by' bw B p pv J w0 ys w)
    (hJ : ∀ ys w w', J ys w → StepsB B w w' → J ys w') (hS : Below w.heap.size w w') : WAt V D db iv yf bd ba by' bw B p pv J w0 ys w' :=
  ⟨h.wm.kept h.row ((KeepT.below hS).toB pv), (KeepT.below hS).row (by decide) h.row, h.keep.trans ((KeepT.below hS).toB pv), hJ _ _ _ h.j (StepsB.below hS), Nat.le_trans h.size hS.size⟩
theorem WAt.alloc {V : Value} {D : List DS} {db : Nat} {iv yf : Value} {bd ba by' bw B : Nat} {p : List UInt8} {pv : Value} {J : List (List UInt8 × Nat) → World → Prop} {w0 : World} {ys : List (List UInt8 × Nat)} {w : World} (h : WAt V D db iv yf bd ba by' bw B p pv J w0 ys w)
    (hJ : ∀ ys w w', J ys w → StepsB B w w' → J ys w') (o : Obj) : WAt V D db iv yf bd ba by' bw B p pv J w0 ys (w.alloc o) :=
  ⟨h.wm.kept h.row ((KeepT.alloc w o).toB pv), (KeepT.alloc w o).row (by decide) h.row, h.keep.trans ((KeepT.alloc w o).toB pv), hJ _ _ _ h.j (StepsB.alloc B w o), by have := h.size; simp; omega⟩
theorem WAt.yields {V : Value} {D : List DS} {db : Nat} {iv yf : Value} {bd ba by' bw B : Nat} {p : List UInt8} {pv : Value} {J J' : List (List UInt8 × Nat) → World → Prop} {w0 : World} {ys ys' : List (List UInt8 × Nat)} {w w' : World} (h : WAt V D db iv yf bd ba by' bw B p pv J w0 ys w)
    (hK : KeepT w w') (hj : J' ys' w') : WAt V D db iv yf bd ba by' bw B p pv J' w0 ys' w' :=
  ⟨h.wm.kept h.row (hK.toB pv), hK.row (by decide) h.row, h.keep.trans (hK.toB pv), hj, Nat.le_trans h.size hK.1⟩

section
variable {V : Value} {D : List DS} {db : Nat} {iv yf : Value} {bd ba by' bw B : Nat} {p : List UInt8} {pv pv' : Value} {J J' : List (List UInt8 × Nat) → World → Prop} {w0 : World} {ys ys' : List (List UInt8 × Nat)} {Wb Wc W4 W5 : World} {c : UInt8}
/-- The way goes on by a byte. -/
theorem WAt.grow (h : WAt V D db iv yf bd ba by' bw B p pv J w0 ys Wb) (hJ : ∀ ys w w', J ys w → StepsB B w w' → J ys w') (hp : Past B pv) (hmv : Moves Wb pv W4 pv') (hrow4 : W4.ownsRow 0 5 1 pv' (p.length + 1) (bytesV p ++ [.int .u8 c.toNat])) :
    WM V D db iv yf bd ba by' bw W4 ∧ W4.ownsRow 0 5 1 pv' (p ++ [c]).length (bytesV (p ++ [c])) ∧ Past B pv' ∧ B ≤ W4.heap.size ∧ J ys W4 := by
  refine ⟨h.wm.kept h.row (KeepB.moves hmv), ?_, hmv.past hp h.size, Nat.le_trans h.size hmv.size, hJ _ _ _ h.j (StepsB.moves hmv h.row hp)⟩
  rw [List.length_append, List.length_singleton]
  unfold bytesV at *
  rw [List.map_append]
  exact hrow4
/-- .. and back. -/
theorem WAt.back (h : WAt V D db iv yf bd ba by' bw B p pv J w0 ys Wb) (hmv : Moves Wb pv W4 pv') (hcs : Wb.heap.size ≤ Wc.heap.size) (hold : ∀ k, k < Wb.heap.size → Wc.heap[k]? = Wb.heap[k]?) (hl : Lies Wc W4 pv pv') (hel : Elder 5 1 pv pv' p.length (bytesV p))
    (hwm4 : WM V D db iv yf bd ba by' bw W4) (hrow4 : W4.ownsRow 0 5 1 pv' (p ++ [c]).length (bytesV (p ++ [c]))) (hk5 : KeepB pv' W4 W5) (hrow5 : W5.ownsRow 0 5 1 pv' (p ++ [c]).length (bytesV (p ++ [c]))) (hj5 : J' ys' W5) :
    WAt V D db iv yf bd ba by' bw B p pv J' w0 ys' W5 := by
  refine ⟨hwm4.kept hrow4 hk5, ?_, ⟨Nat.le_trans h.keep.1 (Nat.le_trans hmv.size hk5.1), fun k cs t r h1 h2 h3 => ?_⟩, hj5, Nat.le_trans h.size (Nat.le_trans hmv.size hk5.1)⟩
  · rcases hl with ⟨hb, _⟩ | ⟨hb, hg, _⟩
    · refine hel W5 1 [.int .u8 c.toNat] hb ?_
      unfold bytesV at *
      rw [List.length_append, List.map_append] at hrow5
      exact hrow5
    · have hne : ∀ g, pv.ownBlock = some g → pv'.ownBlock ≠ some g := fun g e e' => by
        rw [hb] at e'
        have := Option.some.inj e'
        have := (h.row.lt g e).2
        omega
      refine ownsRow_typed h.row fun k cs r hk => ?_
      have hkl := (Array.getElem?_eq_some_iff.1 hk).1
      have h4 : W4.heap[k]? = Wb.heap[k]? := (hg.block k (by omega) (by simp)).trans (hold k hkl)
      refine (hk5.2 k cs _ r (h4.trans hk) (by decide) fun e => ?_).trans h4
      rw [hb] at e
      have := Option.some.inj e
      omega
  · have hb0 := h.keep.2 k cs t r h1 h2 h3
    have hkl : k < Wb.heap.size := (Array.getElem?_eq_some_iff.1 (hb0.trans h1)).1
    have h4 : W4.heap[k]? = Wb.heap[k]? := hmv.block hkl h3
    refine ((hk5.2 k cs t r (h4.trans (hb0.trans h1)) h2 fun e => ?_).trans h4).trans hb0
    rcases hmv.lies with hb | ⟨g, hb, hg⟩
    · exact h3 (hb ▸ e)
    · rw [hb] at e
      have := Option.some.inj e
      omega
end

theorem wpOrd_skipT {P : Program} {S : World → Prop} {l : List Oper} {x : Nat} {Q : Act → World → Prop} {i : Nat} {rest : List (Nat × Bool)} {a : Act} {w : World} {o : Oper} (ho : l[i]? = some o) (hw : Region.wanted o (yielded l.toArray a.tmps) = false)
    (h : wpOrd P l S x Q rest (a.put o.dst undef) w) : wpOrd P l S x Q ((i, true) :: rest) a w := by
  unfold wpOrd
  rw [ho]
  simp only [hw, Bool.false_eq_true, if_false]
  exact h
theorem ownsRow_cells4 {w : World} {B e size n g : Nat} {v : Value} {xs : List Value} (h : w.ownsRow B e size v n xs) (hg : v.ownBlock = some g) : ∃ cur, w.heap[g]? = some (.cells cur e (0, 0)) := by
  rcases h.2 with ⟨rfl, _⟩ | ⟨g', cap, cur, rfl, _, hc, _⟩
  · cases hg
  · cases hg; exact ⟨cur, hc⟩
theorem Tryz.info5 : (Tryz.prog.info? 5).map (fun i => (i.zero, i.size, i.bytes)) = some (some (.int .u8 0), 1, 1) := by kernel_rfl
theorem asc_few {es : List (UInt8 × Nat)} (h : Asc es) : es.length ≤ 256 := by
  have h1 : (es.map fun p => p.1.toNat).Nodup := by
    rw [List.nodup_iff_pairwise_ne, List.pairwise_map]
    exact h.imp fun h e => by
      have := UInt8.lt_iff_toNat_lt.1 h
      omega
  have h2 := nodup_le _ (List.range 256) h1 fun x hx => by
    obtain ⟨p, _, rfl⟩ := List.mem_map.1 hx
    rw [List.mem_range]
    exact p.1.toNat_lt
  simpa using h2

theorem conv_back {w : World} {v : Value} {p : List UInt8} (h : w.ownsRow 0 5 1 v p.length (bytesV p)) : (convert 61 9 v).run Tryz.prog w = .ok (.string ⟨p.toArray⟩) w := by
  rcases h.2 with ⟨rfl, h0⟩ | ⟨g, cap, cur, rfl, _, hg, h1, h2, h3, h4⟩
  · have := List.eq_nil_of_length_eq_zero h0
    subst this
    exact run_convert_bytes_nil (P := Tryz.prog) (w := w) 61 5 Tryz.underlying61 Tryz.underlying5 0 0 _ Tryz.underlying9
  · refine run_convert_bytes_back (P := Tryz.prog) w 61 9 5 ⟨g, 0, none⟩ cap p Tryz.underlying61 Tryz.underlying5 Tryz.underlying9 fun j hj => ?_
    have e : (⟨g, 0, none⟩ : Addr).add j = ⟨g, j, none⟩ := by unfold Addr.add; split <;> simp_all
    rw [e, h.cellAt j (by simpa using hj)]
    unfold bytesV
    rw [List.getElem?_map, List.getElem?_eq_getElem hj]
    rfl

set_option maxRecDepth 100000 in
set_option maxHeartbeats 4000000 in
theorem walk_any {V : Value} {D : List DS} {db : Nat} {R : Nat → Prop} {Λ : Nat → List Word} {ρ : Nat → Nat} {iv : Value} {ok : Nat → Prop} {step : Nat → UInt8 → Option Nat} {ends : Nat → Bool} (hA : AutI iv ok step ends)
    (hD : ∀ i, R i → ∃ s, D[i]? = some s ∧ Asc s.edges ∧ s.below = (Λ i).length ∧ Λ i = wordsAt s.final s.edges Λ ∧ ∀ e ∈ s.edges, R e.2 ∧ ρ e.2 < ρ i)
    (g : Nat) (lb : Array Value) (eg : ∀ args w, (callFunc g args).run Tryz.prog w = .ok (.enter g args) w) (bd ba by' bw B : Nat) (J Jx : List (List UInt8 × Nat) → World → Prop) (F : List (List UInt8 × Nat))
    (hJ : ∀ ys w w', J ys w → StepsB B w w' → J ys w')
    (hY : ∀ ys t i w, J ys w → ys ++ [(t, i)] <+: F → Calls Tryz.prog g (#[strV t, intV i] ++ lb) w fun e w' => KeepT w w' ∧ ((e = .returned (.bool true) ∧ J (ys ++ [(t, i)]) w') ∨ (e = .returned (.bool false) ∧ Jx (ys ++ [(t, i)]) w'))) :
    ∀ (r k s : Nat) (p : List UInt8) (pv : Value) (n : Nat) (ys : List (List UInt8 × Nat)) (w : World), ρ k < r → R k → ok s → WM V D db iv (.func (.func g) #[] lb) bd ba by' bw w →
      w.ownsRow 0 5 1 pv p.length (bytesV p) → Past B pv → B ≤ w.heap.size → p.length + ρ k ≤ 1000000 → n + (Λ k).length ≤ 1000000 → J ys w →
      ys ++ pre p (hits (accA step ends s) (Λ k) n) <+: F →
    Calls Tryz.prog 91 #[intV k, intV s, pv, intV n, ptrV bd, ptrV ba, ptrV by', ptrV bw] w fun e w' =>
      KeepB pv w w' ∧ w'.ownsRow 0 5 1 pv p.length (bytesV p) ∧ w.heap.size ≤ w'.heap.size ∧
      ((e = .returned (.bool true) ∧ J (ys ++ pre p (hits (accA step ends s) (Λ k) n)) w') ∨ (e = .returned (.bool false) ∧ ∃ zs, zs <+: F ∧ Jx zs w')) := by
  obtain ⟨T, v, fE, fT, rE, rT, rfl, hmE, hmT, eE, eT, hcE, hcT⟩ := hA.ex
  intro r
  induction r using Nat.strongRecOn with
  | _ r ih =>
    intro k s p pv n ys w hr hRk hok hwm hrow hpast hB hp hn hj hF
    have IH := Lib.hid ih
    have HD := Lib.hid hD
    have HJ := Lib.hid hJ
    have HY := Lib.hid hY
    have HCE := Lib.hid hcE
    have HCT := Lib.hid hcT
    have HF := Lib.hid hF
    have HWM := Lib.hid hwm
    clear ih hD hJ hY hcE hcT hF hwm
    obtain ⟨sd, hsd, hasc, hbel, hwords, hedges⟩ := HD.out k hRk
    obtain ⟨gV, capV, hV, q0, q1, q2, qf1, qf2⟩ := HWM.out.rows.cells hsd
    have hkl := (List.getElem?_eq_some_iff.1 hsd).1
    have c0 : w.cell? ⟨bd, 0, none⟩ = some (.pointer (some ⟨db, 0, none⟩)) := cell_block HWM.out.bxd
    have c1 : w.cell? ⟨db, 0, none⟩ = some (.slice (some ⟨gV, 0, none⟩) D.length capV) := by rw [← hV]; exact cell_block HWM.out.dct
    have c2 : w.cell? ⟨ba, 0, none⟩ = some (.iface T v) := cell_block HWM.out.bxa
    have c3 : w.cell? ⟨by', 0, none⟩ = some (.func (.func g) #[] lb) := cell_block HWM.out.bxy
    have c4 : w.cell? ⟨bw, 0, none⟩ = some (.func (.func 91) #[] #[ptrV bd, ptrV ba, ptrV by', ptrV bw]) := cell_block HWM.out.bxw
    have z1 : (0 : Int) ≤ (k : Int) ∧ (k : Int) < (D.length : Int) := by omega
    have HV := Lib.hid hV
    have HSD := Lib.hid hsd
    have HBEL := Lib.hid hbel
    have HWORDS := Lib.hid hwords
    have HEDGES := Lib.hid hedges
    clear hV hsd hbel hwords hedges
    have hat : WAt V D db (.iface T v) (.func (.func g) #[] lb) bd ba by' bw B p pv J w ys w := ⟨HWM.out, hrow, KeepB.refl _ _, hj, hB⟩
    have HAT := Lib.hid hat
    have HPAST := Lib.hid hpast
    have hsb : s ≤ 1000000 := hA.few s hok
    have hP0 := partOf_zero step ends Λ sd.final sd.edges s p n
    have HP0 := Lib.hid hP0
    obtain ⟨ap, capp, hpv⟩ := ownsRow_form hrow
    have HPV := Lib.hid hpv
    clear hat hrow hj hpast hP0 hpv
    unfold intV ptrV at *
    go_enter Tryz.func91, Tryz.ntmps91
    obtain ⟨n1, hn1⟩ : ∃ n1 : Nat, n1 = n + (if sd.final then 1 else 0) := ⟨_, rfl⟩
    have HN1 := Lib.hid hn1
    clear hn1
    go_upto_if 24 with (fail)
    go_cut [3] (fun n3 wy => n3 = .int .i64 (n1 : Int) ∧ Hid (WAt V D db (.iface T v) (.func (.func g) #[] lb) bd ba by' bw B p pv J w (ys ++ partOf step ends Λ sd.final sd.edges s p n 0) wy))
    case first =>
      cases hf : sd.final with
      | true =>
        cases he : ends s with
        | true =>
          have hp1 : partOf step ends Λ sd.final sd.edges s p n 0 = [(p, n)] := by rw [HP0.out, hf, he]; rfl
          have hpre : ys ++ [(p, n)] <+: F := by
            have h1 := HF.out
            rw [HWORDS.out, ← partOf_all] at h1
            have h2 := partOf_prefix step ends Λ sd.final sd.edges s p n 0 (Nat.zero_le _)
            rw [hp1] at h2
            exact ((List.prefix_append_right_inj ys).2 h2).trans h1
          have HPRE := Lib.hid hpre
          have HP1 := Lib.hid hp1
          clear hpre hp1
          go_wp2_with fail
          refine (HCE.out s w hok).mono ?_
          rintro e w1 ⟨rfl, hS1⟩
          have hat1 := HAT.out.same HJ.out hS1
          have hcb := conv_back hat1.row
          have c31 : w1.cell? ⟨by', 0, none⟩ = some (.func (.func g) #[] lb) := cell_block hat1.wm.bxy
          have HAT1 := Lib.hid hat1
          rw [he]
          clear hat1 hS1 c0 c1 c2 c3 c4 q0 q1 q2 qf1 qf2
          go_wp2_with fail
          have hy := HY.out ys p n w1 HAT1.out.j HPRE.out
          unfold strV at hy
          refine hy.mono ?_
          rintro e w2 ⟨hk2, ⟨rfl, hj2⟩ | ⟨rfl, hj2⟩⟩
          · have hat2 := HAT1.out.yields (J' := J) hk2 hj2
            rw [← HP1.out] at hat2
            have HAT2 := Lib.hid hat2
            clear hat2 hk2 hj2
            go_wp2_with fail
            go_meet
            exact ⟨by rw [HN1.out, hf]; rfl, HAT2⟩
          · have hat2 := HAT1.out.yields (J' := Jx) hk2 hj2
            have HAT2 := Lib.hid hat2
            clear hat2 hk2 hj2
            go_wp2_with fail
            go_ret
            exact ⟨HAT2.out.keep, HAT2.out.row, HAT2.out.keep.1, .inr ⟨rfl, _, HPRE.out, HAT2.out.j⟩⟩
        | false =>
          have hp1 : partOf step ends Λ sd.final sd.edges s p n 0 = [] := by rw [HP0.out, hf, he]; rfl
          have HP1 := Lib.hid hp1
          clear hp1
          go_wp2_with fail
          refine (HCE.out s w hok).mono ?_
          rintro e w1 ⟨rfl, hS1⟩
          have HAT1 := Lib.hid (HAT.out.same HJ.out hS1)
          rw [he]
          clear hS1 c0 c1 c2 c3 c4 q0 q1 q2 qf1 qf2
          go_wp2_with fail
          go_meet
          exact ⟨by rw [HN1.out, hf]; rfl, Lib.hid (by rw [HP1.out, List.append_nil]; exact HAT1.out)⟩
      | false =>
        have hp1 : partOf step ends Λ sd.final sd.edges s p n 0 = [] := by rw [HP0.out, hf]; rfl
        have HP1 := Lib.hid hp1
        clear hp1
        go_wp2_with fail
        go_meet
        exact ⟨by rw [HN1.out, hf]; rfl, Lib.hid (by rw [HP1.out, List.append_nil]; exact HAT.out)⟩
    case rest =>
      obtain ⟨rfl, HAT0⟩ := hcut
      clear c0 c1 c2 c3 c4 q0 q1 q2 qf1 qf2 HAT HWM HP0
      have srow := HAT0.out.wm.rows.erow k _ HSD.out
      obtain ⟨a5, cap5, hv5⟩ := ownsRow_form srow
      obtain ⟨gV', capV', hV', q0, q1, q2, qf1, qf2⟩ := HAT0.out.wm.rows.cells HSD.out
      rw [HV.out] at hV'
      cases hV'
      rw [hv5] at q1
      have c0 : wc.cell? ⟨bd, 0, none⟩ = some (.pointer (some ⟨db, 0, none⟩)) := cell_block HAT0.out.wm.bxd
      have c1 : wc.cell? ⟨db, 0, none⟩ = some (.slice (some ⟨gV, 0, none⟩) D.length capV) := by rw [← HV.out]; exact cell_block HAT0.out.wm.dct
      have hwl : (if sd.final then 1 else 0) + (edgeWords Λ sd.edges).length = (Λ k).length := by
        rw [HWORDS.out]
        unfold wordsAt edgeWords
        rw [List.length_append]
        congr 1
        split <;> rfl
      have HV5 := Lib.hid hv5
      have HWL := Lib.hid hwl
      have hel : sd.edges.length ≤ 256 := asc_few hasc
      clear srow hv5 hwl
      go_wp2_with fail
      clear c0 c1 q0 q1 q2 qf1 qf2
      go_loopw [3, 47] (fun n3 i wz => ∃ j : Nat, j ≤ sd.edges.length ∧ i = .int .i64 j ∧ n3 = .int .i64 ((n1 + (edgeWords Λ (sd.edges.take j)).length : Nat) : Int) ∧
        Hid (WAt V D db (.iface T v) (.func (.func g) #[] lb) bd ba by' bw B p pv J w (ys ++ partOf step ends Λ sd.final sd.edges s p n j) wz)) (fun _ i _ => sd.edges.length - (intOf i).toNat)
      case atStart => exact ⟨0, Nat.zero_le _, rfl, by simp [edgeWords], HAT0⟩
      case round =>
        obtain ⟨j, hj, rfl, rfl, HAT⟩ := hrel
        by_cases hjl : j < sd.edges.length
        · obtain ⟨ch, t, hct⟩ : ∃ ch t, sd.edges[j]? = some (ch, t) := ⟨_, _, List.getElem?_eq_getElem hjl⟩
          obtain ⟨g1, cap1', e1, ek0, ek1⟩ := HAT.out.wm.rows.edgeCells HSD.out hct
          rw [HV5.out] at e1
          simp only [Value.slice.injEq] at e1
          obtain ⟨rfl, _, rfl⟩ := e1
          obtain ⟨hRt, hρt⟩ := HEDGES.out (ch, t) (List.mem_of_getElem? hct)
          simp only at hRt hρt ek0 ek1
          unfold intV at ek1
          obtain ⟨sd2, hsd2, _, hbel2, _⟩ := HD.out t hRt
          have hps := partOf_succ step ends Λ sd.final sd.edges s p n j hct
          have hew : edgeWords Λ (sd.edges.take (j + 1)) = edgeWords Λ (sd.edges.take j) ++ (Λ t).map (ch :: ·) := by
            have he : sd.edges[j] = (ch, t) := (List.getElem?_eq_some_iff.1 hct).2
            rw [List.take_succ_eq_append_getElem hjl, he, edgeWords_snoc]
          have hewl : (edgeWords Λ (sd.edges.take (j + 1))).length = (edgeWords Λ (sd.edges.take j)).length + (Λ t).length := by rw [hew]; simp
          have hewle := edgeWords_le Λ sd.edges (j + 1)
          have hnb : n1 + (edgeWords Λ (sd.edges.take j)).length + (Λ t).length ≤ 1000000 := by
            have h1 := HN1.out
            have h2 := HWL.out
            omega
          obtain ⟨ew, hewj⟩ : ∃ ew, ew = (edgeWords Λ (sd.edges.take j)).length := ⟨_, rfl⟩
          rw [← hewj] at hnb hewl ⊢
          have HEWJ := Lib.hid hewj
          have HEWL := Lib.hid hewl
          have HPS := Lib.hid hps
          have HSD2 := Lib.hid hsd2
          have HBEL2 := Lib.hid hbel2
          have HCTE := Lib.hid hct
          have c2 : wr.cell? ⟨ba, 0, none⟩ = some (.iface T v) := cell_block HAT.out.wm.bxa
          have c2' : (wr.alloc (.cells #[.int .u8 ch.toNat, .int .i64 t] 153)).cell? ⟨ba, 0, none⟩ = some (.iface T v) := (World.cell?_alloc_lt wr _ _ (lt_of_cell c2)).trans c2
          clear hps hew hewl hewle hewj hsd2 hbel2 hct
          go_wp2_with fail
          have hata := HAT.out.alloc HJ.out (.cells #[.int .u8 ch.toNat, .int .i64 t] 153)
          have HATA := Lib.hid hata
          clear hata ek0 ek1 c2 c2'
          refine (HCT.out s ch _ hok).mono ?_
          rintro e w1 ⟨⟨s', rfl, hs'⟩, hS1⟩
          have hat1 := HATA.out.same HJ.out hS1
          have heb : w1.heap[wr.heap.size]? = some (.cells #[.int .u8 ch.toNat, .int .i64 t] 153 (0, 0)) := by
            rw [hS1.heap]
            exact heap_alloc_new wr _
          have ce0 : w1.cell? ⟨wr.heap.size, 0, none⟩ = some (.int .u8 ch.toNat) := cell_block heb
          have ce1 : w1.cell? ⟨wr.heap.size, 1, none⟩ = some (.int .i64 t) := cell_block heb
          have cbw : w1.cell? ⟨bw, 0, none⟩ = some (.func (.func 91) #[] #[ptrV bd, ptrV ba, ptrV by', ptrV bw]) := cell_block hat1.wm.bxw
          unfold ptrV at cbw
          have HAT1 := Lib.hid hat1
          have HEB := Lib.hid heb
          clear hat1 heb HATA
          cases hst : step s ch with
          | none =>
            have hps0 := HPS.out
            rw [hst] at hps0
            simp only [List.append_nil] at hps0
            have HPS0 := Lib.hid hps0
            clear hps0 hs' hst
            go_wp2_with fail
            refine wp_region_ord [(0, false), (1, false), (2, false), (3, false), (4, false), (5, false), (6, false), (7, false), (8, false), (11, false), (9, true), (10, true), (12, true), (13, false), (14, false)]
              (fun w' => w'.cell? ⟨bw, 0, none⟩ = some (.func (.func 91) #[] #[.pointer (some ⟨bd, 0, none⟩), .pointer (some ⟨ba, 0, none⟩), .pointer (some ⟨by', 0, none⟩), .pointer (some ⟨bw, 0, none⟩)]) ∧ w'.cell? ⟨wr.heap.size, 0, none⟩ = some (.int .u8 ch.toNat) ∧ w'.cell? ⟨wr.heap.size, 1, none⟩ = some (.int .i64 t)) (by kernel_rfl) (by kernel_rfl) ⟨cbw, ce0, ce1⟩ ?_
            iterate 2 (
              refine wpOrd_quiet ?_ rfl rfl (fun w' hS => ?_) ?_
              rotate_left
              · go_simp
                first | rfl | done
              simp only [put_lit, List.set_cons_succ, List.set_cons_zero])
            iterate 8 (
              refine wpOrd_skip rfl rfl ?_
              simp only [put_lit, List.set_cons_succ, List.set_cons_zero])
            iterate 3 (
              refine wpOrd_skipT rfl rfl ?_
              simp only [put_lit, List.set_cons_succ, List.set_cons_zero])
            refine wpOrd_skip rfl rfl ?_
            simp only [put_lit, List.set_cons_succ, List.set_cons_zero]
            refine wpOrd_quiet ?_ rfl rfl (fun w' hS => ?_) ?_
            rotate_left
            · go_simp
              first | rfl | done
            simp only [put_lit, List.set_cons_succ, List.set_cons_zero]
            refine wpOrd_nil ?_
            go_wp2_with fail
            have hatx := HAT1.out.same HJ.out (Same.drew w1)
            rw [← HPS0.out] at hatx
            have ce1x : w1.drew.cell? ⟨wr.heap.size, 1, none⟩ = some (.int .i64 t) := ce1
            clear HAT1 ce0 ce1 cbw HEB
            generalize w1.drew = wx at *
            have HATX := Lib.hid hatx
            clear hatx
            obtain ⟨gV2, capV2, hV2, _, _, p2, _, _⟩ := HATX.out.wm.rows.cells HSD2.out
            rw [HV.out] at hV2
            simp only [Value.slice.injEq, Option.some.injEq, Addr.mk.injEq] at hV2
            obtain ⟨⟨rfl, _⟩, _, rfl⟩ := hV2
            unfold intV at p2
            rw [HBEL2.out] at p2
            have d0 := cell_block (i := 0) HATX.out.wm.bxd
            have d1 := cell_block (i := 0) HATX.out.wm.dct
            rw [HV.out] at d1
            unfold ptrV at d0
            have htl : t < D.length := (List.getElem?_eq_some_iff.1 HSD2.out).1
            have y1 : (0 : Int) ≤ (t : Int) ∧ (t : Int) < (D.length : Int) := by omega
            obtain ⟨ln, hln⟩ : ∃ ln, ln = (Λ t).length := ⟨_, rfl⟩
            rw [← hln] at p2 hnb
            have HLN := Lib.hid hln
            have y2 : IntKind.i64.wrap (((n1 + ew : Nat) : Int) + (ln : Int)) = ((n1 + ew : Nat) : Int) + (ln : Int) := IntWalk.i64_in _ (by omega)
            clear hln
            go_quiet (fail)
            go_wp2_with fail
            have hnx : (edgeWords Λ (sd.edges.take (j + 1))).length = ew + ln := by rw [HEWL.out, HLN.out]
            have HNX := Lib.hid hnx
            clear hnx
            go_roundw
            case rel =>
              exact ⟨j + 1, by omega, by go_num, congrArg (Value.int .i64) (by have := HNX.out; omega), Lib.hid (HATX.out.same HJ.out (Same.drewN _ _))⟩
            case measure => (simp [intOf]) <;> omega
          | some s2 =>
            obtain rfl := hs' s2 hst
            have hok2 := hA.next s ch s' hok hst
            have hps1 : partOf step ends Λ sd.final sd.edges s p n (j + 1) = partOf step ends Λ sd.final sd.edges s p n j ++ pre (p ++ [ch]) (hits (accA step ends s') (Λ t) (n1 + ew)) := by
              have h1 := HPS.out
              rw [hst] at h1
              simp only at h1
              rw [h1, HN1.out, HEWJ.out]
            have hpf : (ys ++ partOf step ends Λ sd.final sd.edges s p n j) ++ pre (p ++ [ch]) (hits (accA step ends s') (Λ t) (n1 + ew)) <+: F := by
              rw [List.append_assoc, ← hps1]
              have h1 := HF.out
              rw [HWORDS.out, ← partOf_all] at h1
              exact ((List.prefix_append_right_inj ys).2 (partOf_prefix step ends Λ sd.final sd.edges s p n (j + 1) hjl)).trans h1
            have HPS1 := Lib.hid hps1
            have HPF := Lib.hid hpf
            clear hps1 hpf hs' hst
            go_wp2_with fail
            refine wp_region_ord [(0, false), (1, false), (2, false), (3, false), (4, false), (5, false), (6, false), (7, false), (8, false), (11, false), (9, true), (10, true), (12, true), (13, false), (14, false)]
              (fun w' => w'.cell? ⟨bw, 0, none⟩ = some (.func (.func 91) #[] #[.pointer (some ⟨bd, 0, none⟩), .pointer (some ⟨ba, 0, none⟩), .pointer (some ⟨by', 0, none⟩), .pointer (some ⟨bw, 0, none⟩)]) ∧ w'.cell? ⟨wr.heap.size, 0, none⟩ = some (.int .u8 ch.toNat) ∧ w'.cell? ⟨wr.heap.size, 1, none⟩ = some (.int .i64 t)) (by kernel_rfl) (by kernel_rfl) ⟨cbw, ce0, ce1⟩ ?_
            iterate 10 (
              refine wpOrd_quiet ?_ rfl rfl (fun w' hS => ?_) ?_
              rotate_left
              · obtain ⟨f0, f1, f2⟩ := hS
                go_simp
                first | rfl | done
              simp only [put_lit, List.set_cons_succ, List.set_cons_zero])
            refine wpOrd_loud rfl rfl (by decide) (fun K5 hK5 => ?_)
            go_simp
            have hbwl := lt_of_cell cbw
            have hebl := lt_of_cell ce0
            refine hK5 _ _ ⟨(World.cell?_alloc_lt w1 _ _ hbwl).trans cbw, (World.cell?_alloc_lt w1 _ _ hebl).trans ce0, (World.cell?_alloc_lt w1 _ _ hebl).trans ce1⟩ ?_
            clear hK5 K5
            refine wpOrd_loud rfl rfl (by decide) (fun K5 hK5 => ?_)
            obtain ⟨i0, hi, hz0, hz1, hz2⟩ := info_parts Tryz.info5
            have hrowc : ((w1.alloc (.cells #[.int .u8 ch.toNat] 5)).drew).ownsRow 0 5 1 pv p.length (bytesV p) := (HAT1.out.row.alloc _).drew
            refine wp_append_elder _ _ 61 rfl 5 i0 (.int .u8 0) 1 1 Tryz.underlying61 hi hz0 hz1 hz2 rfl (by decide) pv p.length (bytesV p) rfl hrowc ⟨w1.heap.size, 0, none⟩ 1 1 [.int .u8 ch.toNat] rfl rfl (cell_one_new w1 _ _)
              (by simp [Value.oneCell']) (by decide) (by unfold maxLen; omega) (by omega) ?_
            intro pv' W4 hrow4 hgrow4 hlies4 hel4
            have hmv : Moves w1 pv W4 pv' := ((Moves.alloc w1 _ _).trans (Moves.same _ (Same.drew _))).trans (Moves.append hgrow4 hlies4)
            obtain ⟨hwm4, hrow4', hp4, hB4, hj4⟩ := HAT1.out.grow HJ.out HPAST.out hmv hrow4
            have hpe : pv.ownBlock ≠ some wr.heap.size := fun e => by
              have := (HAT.out.row.lt _ e).2
              omega
            have heb4 : W4.heap[wr.heap.size]? = some (.cells #[.int .u8 ch.toNat, .int .i64 t] 153 (0, 0)) := (hmv.block hebl hpe).trans HEB.out
            have cbw4 : W4.cell? ⟨bw, 0, none⟩ = some (.func (.func 91) #[] #[ptrV bd, ptrV ba, ptrV by', ptrV bw]) := cell_block hwm4.bxw
            unfold ptrV at cbw4
            refine hK5 _ _ ⟨cbw4, cell_block heb4, cell_block heb4⟩ ?_
            clear hK5 K5
            simp only [put_lit, List.set_cons_succ, List.set_cons_zero]
            refine wpOrd_loud rfl rfl (by decide) (fun K5 hK5 => ?_)
            have hne4 : pv'.ownBlock ≠ some wr.heap.size := fun e => by
              obtain ⟨cur, hcur⟩ := ownsRow_cells4 hrow4' e
              rw [heb4] at hcur
              cases hcur
            have HGROW := Lib.hid hgrow4
            have HLIES := Lib.hid hlies4
            have HEL := Lib.hid hel4
            have HMV := Lib.hid hmv
            have HWM4 := Lib.hid hwm4
            have HROW4 := Lib.hid hrow4'
            have HEB4 := Lib.hid heb4
            clear hgrow4 hlies4 hel4 hmv hrow4 hrowc heb4 cbw4 ce0 ce1 cbw
            go_simp
            have hih := IH.out (ρ k) hr t s' (p ++ [ch]) pv' (n1 + ew) (ys ++ partOf step ends Λ sd.final sd.edges s p n j) W4 hρt hRt hok2 HWM4.out HROW4.out hp4 hB4 (by rw [List.length_append, List.length_singleton]; omega) hnb hj4 HPF.out
            have ecast : ((n1 + ew : Nat) : Int) = (n1 : Int) + (ew : Int) := by omega
            rw [ecast] at hih
            refine hih.mono ?_
            clear hih ecast
            rintro e W5 ⟨hk5, hrow5, hsz5, hres⟩
            have cbw5 : ∀ W, WM V D db (.iface T v) (.func (.func g) #[] lb) bd ba by' bw W → W.cell? ⟨bw, 0, none⟩ = some (.func (.func 91) #[] #[.pointer (some ⟨bd, 0, none⟩), .pointer (some ⟨ba, 0, none⟩), .pointer (some ⟨by', 0, none⟩), .pointer (some ⟨bw, 0, none⟩)]) := fun W h => cell_block h.bxw
            have heb5 : W5.heap[wr.heap.size]? = some (.cells #[.int .u8 ch.toNat, .int .i64 t] 153 (0, 0)) := (hk5.2 _ _ _ _ HEB4.out (by decide) hne4).trans HEB4.out
            have hcs : w1.heap.size ≤ ((w1.alloc (.cells #[.int .u8 ch.toNat] 5)).drew).heap.size := by simp
            rcases hres with ⟨rfl, hj5⟩ | ⟨rfl, zs, hzs, hj5⟩
            · rw [List.append_assoc, ← HPS1.out] at hj5
              have hat5 := HAT1.out.back (J' := J) HMV.out hcs (fun k hk => Below.heap_alloc w1 _ k hk) HLIES.out HEL.out HWM4.out HROW4.out hk5 hrow5 hj5
              refine hK5 _ _ ⟨cbw5 W5 hat5.wm, cell_block heb5, cell_block heb5⟩ ?_
              clear hK5 K5
              have ce1x : W5.cell? ⟨wr.heap.size, 1, none⟩ = some (.int .i64 t) := cell_block heb5
              have HATX := Lib.hid hat5
              clear hat5 hk5 hrow5 hsz5 hj5 cbw5 heb5 HAT1 HMV HLIES HEL HWM4 HROW4 HEB4 hj4 HGROW hwm4
              iterate 2 (
                refine wpOrd_quiet ?_ rfl rfl (fun w' hS => ?_) ?_
                rotate_left
                · go_simp
                  first | rfl | done
                simp only [put_lit, List.set_cons_succ, List.set_cons_zero])
              refine wpOrd_nil ?_
              go_wp2_with fail
              obtain ⟨gV2, capV2, hV2, _, _, p2, _, _⟩ := HATX.out.wm.rows.cells HSD2.out
              rw [HV.out] at hV2
              simp only [Value.slice.injEq, Option.some.injEq, Addr.mk.injEq] at hV2
              obtain ⟨⟨rfl, _⟩, _, rfl⟩ := hV2
              unfold intV at p2
              rw [HBEL2.out] at p2
              have d0 := cell_block (i := 0) HATX.out.wm.bxd
              have d1 := cell_block (i := 0) HATX.out.wm.dct
              rw [HV.out] at d1
              unfold ptrV at d0
              have htl : t < D.length := (List.getElem?_eq_some_iff.1 HSD2.out).1
              have y1 : (0 : Int) ≤ (t : Int) ∧ (t : Int) < (D.length : Int) := by omega
              obtain ⟨ln, hln⟩ : ∃ ln, ln = (Λ t).length := ⟨_, rfl⟩
              rw [← hln] at p2 hnb
              have HLN := Lib.hid hln
              have y2 : IntKind.i64.wrap (((n1 + ew : Nat) : Int) + (ln : Int)) = ((n1 + ew : Nat) : Int) + (ln : Int) := IntWalk.i64_in _ (by omega)
              clear hln
              go_quiet (fail)
              go_wp2_with fail
              have hnx : (edgeWords Λ (sd.edges.take (j + 1))).length = ew + ln := by rw [HEWL.out, HLN.out]
              have HNX := Lib.hid hnx
              clear hnx
              go_roundw
              case rel =>
                exact ⟨j + 1, by omega, by go_num, congrArg (Value.int .i64) (by have := HNX.out; omega), Lib.hid (HATX.out.same HJ.out (Same.drewN _ _))⟩
              case measure => (simp [intOf]) <;> omega
            · have hat5 := HAT1.out.back (J' := fun _ W => Jx zs W) (ys' := []) HMV.out hcs (fun k hk => Below.heap_alloc w1 _ k hk) HLIES.out HEL.out HWM4.out HROW4.out hk5 hrow5 hj5
              refine hK5 _ _ ⟨cbw5 W5 hat5.wm, cell_block heb5, cell_block heb5⟩ ?_
              clear hK5 K5
              have HATX := Lib.hid hat5
              clear hat5 hk5 hrow5 hsz5 hj5 cbw5 heb5 HAT1 HMV HLIES HEL HWM4 HROW4 HEB4 hj4 HGROW hwm4
              iterate 2 (
                refine wpOrd_quiet ?_ rfl rfl (fun w' hS => ?_) ?_
                rotate_left
                · go_simp
                  first | rfl | done
                simp only [put_lit, List.set_cons_succ, List.set_cons_zero])
              refine wpOrd_nil ?_
              go_wp2_with fail
              go_ret
              exact ⟨HATX.out.keep, HATX.out.row, HATX.out.keep.1, .inr ⟨rfl, zs, hzs, HATX.out.j⟩⟩
        · obtain rfl : j = sd.edges.length := by omega
          have hfin : Hid (J (ys ++ pre p (hits (accA step ends s) (Λ k) n)) wr) := Lib.hid (by
            rw [HWORDS.out, ← partOf_all]
            exact HAT.out.j)
          go_wp2_with fail
          go_ret
          exact ⟨HAT.out.keep, HAT.out.row, HAT.out.keep.1, .inl ⟨rfl, hfin.out⟩⟩
end Go.Proofs.Ts
/- The automata of one word and of a beginning, as the walk takes them; the words that they read. -/
set_option linter.unusedVariables false
set_option linter.unusedSimpArgs false
namespace Go.Proofs.Ts
open Go Go.RowKit

def exStep (s : ByteArray) (k : Nat) (c : UInt8) : Option Nat := if goesOn s k c then some (k + 1) else none
def exEnds (s : ByteArray) (k : Nat) : Bool := decide (k = s.size)
def beStep (s : ByteArray) (k : Nat) (c : UInt8) : Option Nat := if begOk s k c then some (begNext s k) else none

theorem exact_aut (s : ByteArray) (hs : s.size ≤ 900000) : AutI (.iface 310 (.string s)) (fun k => k ≤ s.size) (exStep s) (exEnds s) where
  ex := ⟨310, .string s, 238, 240, .string s, .string s, rfl, fun fu w => by kernel_rfl, fun fu w => by kernel_rfl,
    enters_of Tryz.func238 (by kernel_rfl) rfl, enters_of Tryz.func240 (by kernel_rfl) rfl, fun k w hk => exactEnds_any s k w (by omega) (by omega), fun k c w hk => (exactStep_any s k c w (by omega) (by omega)).mono fun e w' ⟨h1, h2⟩ => ⟨⟨k + 1, by
      rw [h1]
      unfold exStep
      cases goesOn s k c <;> rfl, fun u hu => by
      unfold exStep at hu
      split at hu
      · exact Option.some.inj hu
      · cases hu⟩, h2⟩⟩
  next := fun k c t hk h => by
    unfold exStep at h
    split at h
    · rename_i hg
      have := Option.some.inj h
      unfold goesOn at hg
      simp only [Bool.and_eq_true, decide_eq_true_eq] at hg
      show t ≤ s.size
      omega
    · cases h
  few := fun k hk => by have : k ≤ s.size := hk; omega

theorem begins_aut (s : ByteArray) (hs : s.size ≤ 900000) : AutI (.iface 126 (.string s)) (fun k => k ≤ s.size) (beStep s) (exEnds s) where
  ex := ⟨126, .string s, 210, 212, .string s, .string s, rfl, fun fu w => by kernel_rfl, fun fu w => by kernel_rfl,
    enters_of Tryz.func210 (by kernel_rfl) rfl, enters_of Tryz.func212 (by kernel_rfl) rfl, fun k w hk => beginsEnds_any s k w (by omega) (by have : k ≤ s.size := hk; omega), fun k c w hk => (beginsStep_any s k c w (by omega) hk).mono fun e w' ⟨h1, h2⟩ => ⟨⟨begNext s k, by
      rw [h1]
      unfold beStep
      cases begOk s k c <;> rfl, fun u hu => by
      unfold beStep at hu
      split at hu
      · exact Option.some.inj hu
      · cases hu⟩, h2⟩⟩
  next := fun k c t hk h => by
    unfold beStep at h
    split at h
    · rename_i hg
      have := Option.some.inj h
      unfold begOk goesOn at hg
      unfold begNext at this
      simp only [Bool.or_eq_true, Bool.and_eq_true, decide_eq_true_eq] at hg
      show t ≤ s.size
      have hk' : k ≤ s.size := hk
      split at this <;> omega
    · cases h
  few := fun k hk => by have : k ≤ s.size := hk; omega

theorem exact_reads (s : ByteArray) : ∀ (u : List UInt8) (k : Nat), k ≤ s.size → (accA (exStep s) (exEnds s) k u = true ↔ u = s.data.toList.drop k)
  | [], k, hk => by
    unfold accA exEnds
    rw [decide_eq_true_eq]
    constructor
    · rintro rfl; exact (List.drop_eq_nil_of_le (by simp)).symm
    · intro h
      have := congrArg List.length h
      simp at this
      omega
  | c :: u, k, hk => by
    unfold accA
    by_cases h : k < s.size
    · have hl : k < s.data.toList.length := by simpa using h
      rw [List.drop_eq_getElem_cons hl]
      have hg : s.data.toList.getD k 0 = s.data.toList[k] := by rw [List.getD_eq_getElem?_getD, List.getElem?_eq_getElem hl]; rfl
      by_cases hc : s.data.toList[k] = c
      · have : exStep s k c = some (k + 1) := by unfold exStep goesOn; rw [hg, hc]; simp [h]
        rw [this]
        simp only
        rw [exact_reads s u (k + 1) h, hc]
        simp
      · have : exStep s k c = none := by unfold exStep goesOn; rw [hg, decide_eq_false hc]; simp
        rw [this]
        simp only [Bool.false_eq_true, false_iff]
        intro e
        exact hc (List.cons.inj e).1.symm
    · have : exStep s k c = none := by unfold exStep goesOn; simp [h]
      rw [this]
      have h2 : s.data.toList.drop k = [] := List.drop_eq_nil_of_le (by simp; omega)
      rw [h2]
      simp
theorem begins_reads (s : ByteArray) : ∀ (u : List UInt8) (k : Nat), k ≤ s.size → (accA (beStep s) (exEnds s) k u = true ↔ s.data.toList.drop k <+: u)
  | [], k, hk => by
    unfold accA exEnds
    rw [decide_eq_true_eq, List.prefix_nil]
    constructor
    · rintro rfl; exact List.drop_eq_nil_of_le (by simp)
    · intro h
      have := congrArg List.length h
      simp at this
      omega
  | c :: u, k, hk => by
    unfold accA
    by_cases h : k < s.size
    · have hl : k < s.data.toList.length := by simpa using h
      rw [List.drop_eq_getElem_cons hl]
      have hg : s.data.toList.getD k 0 = s.data.toList[k] := by rw [List.getD_eq_getElem?_getD, List.getElem?_eq_getElem hl]; rfl
      have hne : ¬ k = s.size := by omega
      by_cases hc : s.data.toList[k] = c
      · have : beStep s k c = some (k + 1) := by unfold beStep begOk goesOn begNext; rw [hg, hc]; simp [h, hne]
        rw [this]
        simp only
        rw [begins_reads s u (k + 1) h, hc, List.cons_prefix_cons]
        simp
      · have : beStep s k c = none := by unfold beStep begOk goesOn; rw [hg, decide_eq_false hc]; simp [hne]
        rw [this]
        simp only [Bool.false_eq_true, false_iff, List.cons_prefix_cons]
        exact fun e => hc e.1
    · have hk2 : k = s.size := by omega
      have : beStep s k c = some k := by unfold beStep begOk begNext; simp [hk2]
      rw [this]
      simp only
      rw [begins_reads s u k hk]
      have h2 : s.data.toList.drop k = [] := List.drop_eq_nil_of_le (by simp; omega)
      rw [h2]
      simp
end Go.Proofs.Ts
/- The walk of an automaton (states that are numbers) over a whole dictionary: what auto.Over hands back, called. -/
set_option linter.unusedVariables false
set_option linter.unusedSimpArgs false
namespace Go.Proofs.Ts
open Go Go.RowKit

/-- Where an automaton starts. -/
def AutS (iv : Value) (s0 : Nat) : Prop := ∃ T v fS rS, iv = .iface T v ∧ (∀ fu w, (method (fu + 1) T v "Start").run Tryz.prog w = .ok (fS, rS) w) ∧ (∀ args w, (callFunc fS args).run Tryz.prog w = .ok (.enter fS args) w) ∧
  ∀ w, Calls Tryz.prog fS #[rS] w fun e w' => e = .returned (.int .i64 s0) ∧ Same w w'
theorem exact_start (s : ByteArray) : AutS (.iface 310 (.string s)) 0 :=
  ⟨_, _, 239, .string s, rfl, fun fu w => by kernel_rfl, enters_of Tryz.func239 (by kernel_rfl) rfl, fun w => exactStart_any s w⟩
theorem begins_start (s : ByteArray) : AutS (.iface 126 (.string s)) 0 :=
  ⟨_, _, 211, .string s, rfl, fun fu w => by kernel_rfl, enters_of Tryz.func211 (by kernel_rfl) rfl, fun w => beginsStart_any s w⟩

theorem over_make (iv : Value) (w : World) (hiv : ∃ T v, iv = .iface T v) :
    Calls Tryz.prog 52 #[iv] w fun e w' => e = .returned (.func (.func 90) #[] #[ptrV w.heap.size]) ∧ w' = w.alloc (.cells #[iv] 206) := by
  have hmf : ∀ (fn : Fn) (first cap : Array Value) (w : World), (Instr.makeFunc fn first cap).run Tryz.prog w = .ok (.func fn first cap) w := fun _ _ _ _ => rfl
  obtain ⟨T, v, rfl⟩ := hiv
  go_enter Tryz.func52, Tryz.ntmps52
  go_wp2
  go_ret
  exact ⟨rfl, rfl⟩

theorem pre_nil (l : List (List UInt8 × Nat)) : pre [] l = l := by
  unfold pre
  simp

def walkFn (bd ba by' bw : Nat) : Value := .func (.func 91) #[] #[.pointer (some ⟨bd, 0, none⟩), .pointer (some ⟨ba, 0, none⟩), .pointer (some ⟨by', 0, none⟩), .pointer (some ⟨bw, 0, none⟩)]
def overStart (w : World) (db g : Nat) (lb : Array Value) (ba : Nat) : World :=
  ((w.alloc (.cells #[.pointer (some ⟨db, 0, none⟩)] 85)).alloc (.cells #[.func (.func g) #[] lb] 127)).alloc (.cells #[walkFn w.heap.size ba (w.heap.size + 1) (w.heap.size + 1 + 1)] 207)
theorem overStart_old (w : World) (db g : Nat) (lb : Array Value) (ba j : Nat) (h : j < w.heap.size) : (overStart w db g lb ba).heap[j]? = w.heap[j]? := by
  unfold overStart
  rw [Below.heap_alloc _ _ _ (by simp; omega), Below.heap_alloc _ _ _ (by simp; omega), Below.heap_alloc _ _ _ h]
theorem overStart_size (w : World) (db g : Nat) (lb : Array Value) (ba : Nat) : (overStart w db g lb ba).heap.size = w.heap.size + 3 := by unfold overStart; simp
theorem overStart_keep (w : World) (db g : Nat) (lb : Array Value) (ba : Nat) : KeepT w (overStart w db g lb ba) := ((KeepT.alloc _ _).trans (KeepT.alloc _ _)).trans (KeepT.alloc _ _)
theorem overStart_steps (w : World) (db g : Nat) (lb : Array Value) (ba B : Nat) : StepsB B w (overStart w db g lb ba) := ((StepsB.alloc _ _ _).trans (StepsB.alloc _ _ _)).trans (StepsB.alloc _ _ _)
theorem overStart_wm {w : World} {db g : Nat} {lb : Array Value} {ba : Nat} {V iv : Value} {D : List DS} (h1 : w.heap[db]? = some (.cells #[V] 148 (0, 0))) (h2 : RowsIn 0 w V D) (h3 : w.heap[ba]? = some (.cells #[iv] 206 (0, 0))) :
    WM V D db iv (.func (.func g) #[] lb) w.heap.size ba (w.heap.size + 1) (w.heap.size + 1 + 1) (overStart w db g lb ba) := by
  have l1 := (Array.getElem?_eq_some_iff.1 h1).1
  have l3 := (Array.getElem?_eq_some_iff.1 h3).1
  refine ⟨(overStart_old w db g lb ba _ l1).trans h1, h2.cellsKept fun k cs t r hk _ => overStart_old w db g lb ba k (Array.getElem?_eq_some_iff.1 hk).1, ?_, (overStart_old w db g lb ba _ l3).trans h3, ?_, ?_⟩
  · unfold overStart
    rw [Below.heap_alloc _ _ _ (by simp; omega), Below.heap_alloc _ _ _ (by simp)]
    exact heap_alloc_new w _
  · unfold overStart
    rw [Below.heap_alloc _ _ _ (by simp)]
    have := heap_alloc_new (w.alloc (.cells #[.pointer (some ⟨db, 0, none⟩)] 85)) (.cells #[.func (.func g) #[] lb] 127)
    simpa using this
  · unfold overStart
    have := heap_alloc_new ((w.alloc (.cells #[.pointer (some ⟨db, 0, none⟩)] 85)).alloc (.cells #[.func (.func g) #[] lb] 127)) (.cells #[walkFn w.heap.size ba (w.heap.size + 1) (w.heap.size + 1 + 1)] 207)
    unfold walkFn at *
    unfold ptrV
    simpa using this

set_option maxRecDepth 100000 in
set_option maxHeartbeats 2000000 in
theorem over_any {db : Nat} {R : Nat → Prop} {Λ : Nat → List Word} {ρ : Nat → Nat} {D : List DS} {iv : Value} {ok : Nat → Prop} {step : Nat → UInt8 → Option Nat} {ends : Nat → Bool} {s0 : Nat} (hA : AutI iv ok step ends) (hS0 : AutS iv s0) (hok0 : ok s0)
    (g : Nat) (lb : Array Value) (eg : ∀ args w, (callFunc g args).run Tryz.prog w = .ok (.enter g args) w) (ba : Nat) (w : World) (hdi : DictIs w db R Λ ρ D) (hlen : (Λ 0).length ≤ 1000000) (hba : w.heap[ba]? = some (.cells #[iv] 206 (0, 0)))
    (J Jx : List (List UInt8 × Nat) → World → Prop) (hJ : ∀ ys w1 w', J ys w1 → StepsB w.heap.size w1 w' → J ys w')
    (hY : ∀ ys t i w1, J ys w1 → ys ++ [(t, i)] <+: hits (accA step ends s0) (Λ 0) 0 → Calls Tryz.prog g (#[strV t, intV i] ++ lb) w1 fun e w' => KeepT w1 w' ∧ ((e = .returned (.bool true) ∧ J (ys ++ [(t, i)]) w') ∨ (e = .returned (.bool false) ∧ Jx (ys ++ [(t, i)]) w')))
    (hj0 : J [] w) :
    Calls Tryz.prog 90 #[ptrV db, .func (.func g) #[] lb, ptrV ba] w fun e w' => e = .returned (.tuple #[]) ∧ KeepT w w' ∧
      (J (hits (accA step ends s0) (Λ 0) 0) w' ∨ ∃ zs, zs <+: hits (accA step ends s0) (Λ 0) 0 ∧ Jx zs w') := by
  have hmf : ∀ (fn : Fn) (first cap : Array Value) (w : World), (Instr.makeFunc fn first cap).run Tryz.prog w = .ok (.func fn first cap) w := fun _ _ _ _ => rfl
  obtain ⟨T, v, fS, rS, rfl, hmS, eS, hcS⟩ := hS0
  obtain ⟨V, hdct, hrows⟩ := hdi.mem
  have hbal := (Array.getElem?_eq_some_iff.1 hba).1
  have HDI := Lib.hid hdi
  have HROWS := Lib.hid hrows
  have HDCT := Lib.hid hdct
  have HBA := Lib.hid hba
  have HJ := Lib.hid hJ
  have HY := Lib.hid hY
  have HCS := Lib.hid hcS
  have HJ0 := Lib.hid hj0
  clear hdi hrows hdct hba hJ hY hcS hj0
  unfold ptrV
  go_enter Tryz.func90, Tryz.ntmps90
  go_wp2_with fail
  have hwm := overStart_wm (g := g) (lb := lb) HDCT.out HROWS.out HBA.out
  have hks := overStart_keep w db g lb ba
  have hst := overStart_steps w db g lb ba w.heap.size
  have hsz := overStart_size w db g lb ba
  have hj1 := HJ.out _ _ _ HJ0.out hst
  have hW : (((w.alloc (.cells #[.pointer (some ⟨db, 0, none⟩)] 85)).alloc (.cells #[.func (.func g) #[] lb] 127)).alloc (.cells #[.func (.func 91) #[] #[.pointer (some ⟨w.heap.size, 0, none⟩), .pointer (some ⟨ba, 0, none⟩), .pointer (some ⟨w.heap.size + 1, 0, none⟩), .pointer (some ⟨w.heap.size + 1 + 1, 0, none⟩)]] 207)) = overStart w db g lb ba := rfl
  rw [hW]
  clear hW
  generalize overStart w db g lb ba = W3 at *
  have c1 : W3.cell? ⟨w.heap.size + 1 + 1, 0, none⟩ = some (walkFn w.heap.size ba (w.heap.size + 1) (w.heap.size + 1 + 1)) := cell_block hwm.bxw
  have c2 : W3.cell? ⟨ba, 0, none⟩ = some (.iface T v) := cell_block hwm.bxa
  have HWM := Lib.hid hwm
  have HKS := Lib.hid hks
  have HJ1 := Lib.hid hj1
  clear hwm hks hst hj1
  unfold walkFn at c1
  have c1' := c1
  have c2' := c2
  refine wp_region_ord [(0, false), (1, false), (2, true), (3, true)] (fun w' => w'.cell? ⟨w.heap.size + 1 + 1, 0, none⟩ = some (.func (.func 91) #[] #[.pointer (some ⟨w.heap.size, 0, none⟩), .pointer (some ⟨ba, 0, none⟩), .pointer (some ⟨w.heap.size + 1, 0, none⟩), .pointer (some ⟨w.heap.size + 1 + 1, 0, none⟩)]) ∧
    w'.cell? ⟨ba, 0, none⟩ = some (.iface T v)) (by kernel_rfl) (by kernel_rfl) ⟨c1, c2⟩ ?_
  iterate 2 (
    refine wpOrd_quiet ?_ rfl rfl (fun w' hS => ?_) ?_
    rotate_left
    · obtain ⟨d1, d2⟩ := hS
      go_simp
      first | rfl | done
    simp only [put_lit, List.set_cons_succ, List.set_cons_zero])
  refine wpOrd_loud rfl rfl (by decide) (fun K5 hK5 => ?_)
  go_simp
  refine (HCS.out _).mono ?_
  rintro e w1 ⟨rfl, hS1⟩
  have hS : Same W3 w1 := (Same.drew _).trans hS1
  refine hK5 _ _ ⟨(hS.cell _).trans c1, (hS.cell _).trans c2⟩ ?_
  clear hK5 K5
  refine wpOrd_loud rfl rfl (by decide) (fun K5 hK5 => ?_)
  go_simp
  have hwm1 := HWM.out.kept (v := .slice none 0 0) (World.ownsRow_nil _ _ _ _ : W3.ownsRow 0 5 1 (.slice none 0 0) 0 []) ((KeepT.same hS).toB _)
  have hst0 := HDI.out.state
  have hroot := HDI.out.root
  have hrun := walk_any hA hst0 g lb eg w.heap.size ba (w.heap.size + 1) (w.heap.size + 1 + 1) w.heap.size J Jx (hits (accA step ends s0) (Λ 0) 0) HJ.out HY.out (ρ 0 + 1) 0 s0 [] (.slice none 0 0) 0 [] w1 (Nat.lt_succ_self _) hroot.1 hok0 hwm1
    (World.ownsRow_nil _ _ _ _) (fun k e => by cases e) (by rw [hS.heap]; omega) (by simpa using hroot.2) (by omega) (HJ.out _ _ _ HJ1.out (StepsB.same hS)) (by rw [List.nil_append, pre_nil]; exact List.prefix_refl _)
  unfold intV ptrV at hrun
  refine hrun.mono ?_
  rintro e W5 ⟨hk5, _, _, hres⟩
  have hkt : KeepT w W5 := HKS.out.trans ((KeepT.same hS).trans ⟨hk5.1, fun k cs t r h1 h2 => hk5.2 k cs t r h1 h2 (fun e => by cases e)⟩)
  rw [List.nil_append, pre_nil] at hres
  have hk1 : KeepT W3 W5 := (KeepT.same hS).trans ⟨hk5.1, fun k cs t r h1 h2 => hk5.2 k cs t r h1 h2 (fun e => by cases e)⟩
  have d1 : W5.cell? ⟨w.heap.size + 1 + 1, 0, none⟩ = _ := cell_block ((hk1.2 _ _ _ _ HWM.out.bxw (by decide)).trans HWM.out.bxw)
  have d2 : W5.cell? ⟨ba, 0, none⟩ = _ := cell_block ((hk1.2 _ _ _ _ HWM.out.bxa (by decide)).trans HWM.out.bxa)
  have hd : _ ∧ _ := ⟨d1, d2⟩
  have HKT := Lib.hid hkt
  clear hrun hk5 hkt hwm1 hst0 hroot
  rcases hres with ⟨rfl, hj5⟩ | ⟨rfl, zs, hzs, hj5⟩
  · have HJ5 := Lib.hid hj5
    clear hj5
    refine hK5 _ _ hd ?_
    clear hK5 K5 hd d1 d2
    refine wpOrd_nil ?_
    go_wp2_with fail
    refine bodyPost_end (results_none rfl _ _ _) rfl ?_
    exact ⟨rfl, HKT.out, .inl HJ5.out⟩
  · have HJ5 := Lib.hid hj5
    clear hj5
    refine hK5 _ _ hd ?_
    clear hK5 K5 hd d1 d2
    refine wpOrd_nil ?_
    go_wp2_with fail
    refine bodyPost_end (results_none rfl _ _ _) rfl ?_
    exact ⟨rfl, HKT.out, .inr ⟨zs, hzs, HJ5.out⟩⟩
end Go.Proofs.Ts
/- A state of the automaton of nearness, built out of a row and a code point. -/
set_option linter.unusedVariables false
set_option linter.unusedSimpArgs false
namespace Go.Proofs.Ts
open Go Go.RowKit

theorem fold_set (off : Nat) : ∀ (xs : List Value) (k : Nat) (cells : List Value), off + k + xs.length ≤ cells.length →
    (xs.zipIdx k).foldl (fun (cs : Array Value) (p : Value × Nat) => cs.setIfInBounds (off + p.2) p.1) cells.toArray = (cells.take (off + k) ++ (xs ++ cells.drop (off + k + xs.length))).toArray
  | [], k, cells, h => by simp
  | x :: xs, k, cells, h => by
    rw [List.length_cons] at h
    rw [List.zipIdx_cons, List.foldl_cons, List.setIfInBounds_toArray, fold_set off xs (k + 1) (cells.set (off + k) x) (by simp; omega)]
    congr 1
    rw [show off + (k + 1) = off + k + 1 by omega, List.take_succ_eq_append_getElem (by simp; omega), List.length_cons, List.drop_set_of_lt (by omega), List.take_set_of_le (Nat.le_refl _), List.getElem_set_self, List.append_assoc, show off + k + 1 + xs.length = off + k + (xs.length + 1) by omega]
    rfl

theorem wpList_build_is {P : Program} {ops : Array Oper} {rest : List Oper} {o : Oper} {a : Act} {w : World} {Q : Exit → Act → World → Prop} (hg : o.guard = none) (t : TypeId) (parts : Array (Nat × Operand)) (ho : o.op = .build t parts) (cells : Array Value)
    (hf : P.built t (parts.map fun (i, x) => (i, a.eval x)).toList = some cells) (h : wpList P ops Q rest (a.put o.dst (.agg cells)) w) : wpList P ops Q (o :: rest) a w := by
  refine wpList_build hg t parts ho (by rw [hf]; rfl) ?_
  rw [hf]
  exact h

theorem fold_size (off : Nat) : ∀ (xs : List (Value × Nat)) (Z : Array Value), (xs.foldl (fun (cs : Array Value) (p : Value × Nat) => cs.setIfInBounds (off + p.2) p.1) Z).size = Z.size
  | [], Z => rfl
  | x :: xs, Z => by rw [List.foldl_cons, fold_size off xs, Array.size_setIfInBounds]
theorem fill_two (pl : Nat → Option (Nat × Nat)) (Z xs : Array Value) (i1 o1 n1 i2 o2 : Nat) (v : Value) (hv : v.cells = #[v]) (h0 : xs.size = n1) (h1 : pl i1 = some (o1, n1)) (h2 : pl i2 = some (o2, 1)) (hs1 : o1 + n1 ≤ Z.size) (hs2 : o2 + 1 ≤ Z.size) :
    Instr.fill pl Z [(i1, .agg xs), (i2, v)] = some ((xs.toList.zipIdx.foldl (fun (cs : Array Value) (p : Value × Nat) => cs.setIfInBounds (o1 + p.2) p.1) Z).setIfInBounds o2 v) := by
  have hz : (xs.zipIdx.foldl (fun (cs : Array Value) (p : Value × Nat) => cs.setIfInBounds (o1 + p.2) p.1) Z) = (xs.toList.zipIdx.foldl (fun (cs : Array Value) (p : Value × Nat) => cs.setIfInBounds (o1 + p.2) p.1) Z) := by
    rw [← Array.foldl_toList, Array.toList_zipIdx]
  have hsz := fold_size o1 xs.toList.zipIdx Z
  simp only [Instr.fill, h1, h2, hv]
  rw [if_neg (by simp [Value.cells, h0]; omega)]
  have e : (Value.agg xs).cells = xs := rfl
  rw [e, hz, if_neg (by rw [hsz]; simp; omega)]
  rfl

theorem rows_zero : (Tryz.prog.info? 135).map (fun i => i.zero) = some (some (.agg (rcells (List.replicate 41 0) (List.replicate 41 0) 0 (List.replicate 4 0) 0).toArray)) := by kernel_rfl
def rowsPlaces : List (Nat × Nat) := [(0, 41), (41, 41), (82, 1), (83, 4), (87, 1)]
theorem zeros_len (a b : List Nat) (l : Int) (p : List Nat) (n : Nat) (ha : a.length = 41) (hb : b.length = 41) (hp : p.length = 4) : (rcells a b l p n).length = 88 := by simp [rcells, u8s_length, ha, hb, hp]
theorem rows_fold (a b now : List Nat) (l : Int) (p : List Nat) (n : Nat) (ha : a.length = 41) (hb : b.length = 41) (hp : p.length = 4) (h : now.length = 41) :
    ((u8s now).zipIdx.foldl (fun (cs : Array Value) (q : Value × Nat) => cs.setIfInBounds (41 + q.2) q.1) (rcells a b l p n).toArray) = (rcells a now l p n).toArray := by
  have hl : (u8s now).length = 41 := by rw [u8s_length, h]
  have := fold_set 41 (u8s now) 0 (rcells a b l p n) (by rw [hl, zeros_len a b l p n ha hb hp]; omega)
  rw [this, hl]
  congr 1
  unfold rcells
  rw [List.take_left' (by rw [u8s_length, ha]), ← List.append_assoc (u8s a) (u8s b), List.drop_left' (by rw [List.length_append, u8s_length, u8s_length, ha, hb])]
theorem rows_last (a b : List Nat) (l r : Int) (p : List Nat) (n : Nat) (ha : a.length = 41) (hb : b.length = 41) : (rcells a b l p n).toArray.setIfInBounds 82 (.int .i32 r) = (rcells a b r p n).toArray := by
  rw [List.setIfInBounds_toArray]
  congr 1
  unfold rcells
  rw [List.set_append_right _ _ (by rw [u8s_length, ha]; omega), List.set_append_right _ _ (by rw [u8s_length, u8s_length, ha, hb]; omega), u8s_length, u8s_length, ha, hb]
  rfl
theorem rows_fill (a b now : List Nat) (r : Int) (ha : a.length = 41) (hb : b.length = 41) (p : List Nat) (hp : p.length = 4) (h : now.length = 41) (pl : Nat → Option (Nat × Nat)) (h1 : pl 1 = some (41, 41)) (h2 : pl 2 = some (82, 1)) :
    Instr.fill pl (rcells a b 0 p 0).toArray [(1, .agg (u8s now).toArray), (2, .int .i32 r)] = some (rcells a now r p 0).toArray := by
  have hz := zeros_len a b 0 p 0 ha hb hp
  rw [fill_two pl (rcells a b 0 p 0).toArray (u8s now).toArray 1 41 41 2 82 (.int .i32 r) rfl (by rw [List.size_toArray, u8s_length, h]) h1 h2 (by rw [List.size_toArray, hz]; omega) (by rw [List.size_toArray, hz]; omega)]
  rw [List.toList_toArray, rows_fold a b now 0 p 0 ha hb hp h, rows_last a now 0 r p 0 ha h]
set_option maxRecDepth 100000 in
theorem rows_built (now : List Nat) (r : Int) (h : now.length = 41) : Tryz.prog.built 135 [(1, .agg (u8s now).toArray), (2, .int .i32 r)] = some (rcells (List.replicate 41 0) now r (List.replicate 4 0) 0).toArray := by
  unfold Program.built
  have hz := rows_zero
  cases hi : Tryz.prog.info? 135 with
  | none => rw [hi] at hz; cases hz
  | some it =>
    rw [hi] at hz
    have hz' : it.zero = some (.agg (rcells (List.replicate 41 0) (List.replicate 41 0) 0 (List.replicate 4 0) 0).toArray) := Option.some.inj hz
    rw [Tryz.underlying135]
    simp only [hz']
    generalize hm : List.mapM (fun (f : Field) => Option.map (fun (i : TypeInfo) => (f.offset, i.size)) (Tryz.prog.info? f.type)) _ = m
    obtain rfl : m = some rowsPlaces := hm.symm.trans (by kernel_rfl)
    exact rows_fill _ _ _ _ (by simp) (by simp) _ (by simp) h _ rfl rfl
def z41 : List Nat := List.replicate 41 0
def z4 : List Nat := List.replicate 4 0
theorem z41_len : z41.length = 41 := List.length_replicate
theorem z4_len : z4.length = 4 := List.length_replicate
theorem rows_built2 (now : List Nat) (r : Int) (h : now.length = 41) : Tryz.prog.built 135 [(1, .agg (u8s now).toArray), (2, .int .i32 r)] = some (rcells z41 now r z4 0).toArray := rows_built now r h
end Go.Proofs.Ts
