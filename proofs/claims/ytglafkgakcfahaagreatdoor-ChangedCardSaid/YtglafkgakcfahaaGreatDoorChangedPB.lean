/- Lemmas towards the statement Changed of termsearch: walks of the program's functions and plain laws on lists (TsPut, TsNodes, TsOrd, TsSettleB, TsSettle, TsCode). Conditions: those that each theorem names. -/
import Derived.Test.YtglafkgakcfahaaGreatDoorProg
import Derived.Test.YtglafkgakcfahaaGreatDoorChangedPA
import Derived.Maps.AppendAt
import Derived.OrdersHeld
import Derived.Deep.RegionHeld3
import Derived.Lib.BufferRead
/- The walk of varint.Put: a number as bytes, behind a row of bytes of one's own. -/
set_option linter.unusedVariables false
namespace Go.Proofs.Ts
open Go Go.RowKit

/-- A number's bytes, seven bits each, the lowest first (f: enough rounds). -/
def vintF : Nat → Nat → List Nat
  | 0, n => [n % 256]
  | f + 1, n => if 128 ≤ n then (n % 128 + 128) :: vintF f (n / 128) else [n]
def vint (n : Nat) : List Nat := vintF n n
def byteV (b : Nat) : Value := .int .u8 (b : Int)

theorem vintF_fuel : ∀ (f g n : Nat), n ≤ f → n ≤ g → vintF f n = vintF g n
  | 0, 0, _, _, _ => rfl
  | 0, g + 1, n, h, _ => by
    obtain rfl : n = 0 := by omega
    simp [vintF]
  | f + 1, 0, n, _, h => by
    obtain rfl : n = 0 := by omega
    simp [vintF]
  | f + 1, g + 1, n, h1, h2 => by
    unfold vintF
    split
    · rw [vintF_fuel f g (n / 128) (by omega) (by omega)]
    · rfl
theorem vint_big {n : Nat} (h : 128 ≤ n) : vint n = (n % 128 + 128) :: vint (n / 128) := by
  unfold vint
  obtain ⟨m, rfl⟩ : ∃ m, n = m + 1 := ⟨n - 1, by omega⟩
  conv => lhs; unfold vintF
  rw [if_pos h, vintF_fuel m ((m + 1) / 128) _ (by omega) (Nat.le_refl _)]
theorem vint_small {n : Nat} (h : n < 128) : vint n = [n] := by
  unfold vint
  cases n with
  | zero => rfl
  | succ m => unfold vintF; rw [if_neg (by omega)]

theorem Tryz.tsInfo5 : (Tryz.prog.info? 5).map (fun i => (i.zero, i.size, i.bytes)) = some (some (.int .u8 0), 1, 1) := by kernel_rfl

theorem or128 : ∀ x : Fin 256, x.val ||| 128 = x.val % 128 + 128 := by decide +kernel
theorem byte_or (m : Nat) : bits BinOp.or IntKind.u8 ((m : Int) % 256) 128 = ((m % 128 + 128 : Nat) : Int) := by
  have h := u8_or_nat (m % 256) 128 (by omega) (by omega)
  have e : ((m % 256 : Nat) : Int) = (m : Int) % 256 := by omega
  rw [e] at h
  rw [show ((128 : Nat) : Int) = 128 from rfl] at h
  rw [h, or128 ⟨m % 256, by omega⟩]
  show ((m % 256 % 128 + 128 : Nat) : Int) = _
  rw [Nat.mod_mod_of_dvd m (by decide : 128 ∣ 256)]

set_option maxRecDepth 100000 in
set_option maxHeartbeats 1000000 in
theorem put_any (v : Value) (l : Nat) (xs : List Value) (n : Nat) (w : World) (hn : n < 1000000) (hl : l ≤ 1000000) (hown : w.ownsRow 0 5 1 v l xs) :
    Calls Tryz.prog 38 #[v, .int .i64 n] w fun e w' => ∃ v', e = .returned v' ∧ w'.ownsRow 0 5 1 v' (l + (vint n).length) (xs ++ (vint n).map byteV) ∧ Moves w v w' v' := by
  obtain ⟨i0, hi, hz0, hz1, hz2⟩ := info_parts Tryz.tsInfo5
  go_enter Tryz.func38, Tryz.ntmps38
  go_wp2
  go_loopw [0, 1] (fun s i wr => ∃ (m k : Nat) (ys : List Value), m < 1000000 ∧ m + k ≤ n ∧ i = .int .i64 m ∧ Hid (ys ++ (vint m).map byteV = xs ++ (vint n).map byteV ∧ k + (vint m).length = (vint n).length) ∧ wr.ownsRow 0 5 1 s (l + k) ys ∧ Moves w v wr s) (fun _ i _ => (intOf i).toNat)
  case atStart => exact ⟨n, 0, xs, hn, by omega, rfl, ⟨rfl, by omega⟩, hown, Moves.refl _ _⟩
  case round =>
    obtain ⟨m, k, ys, hm, hmk, rfl, HE, hrow, hmv⟩ := hrel
    have hmax : l + k + 1 ≤ maxLen := by unfold maxLen; omega
    have hbytes : (l + k + 1) * 1 ≤ 140737488355328 := by omega
    by_cases h128 : 128 ≤ m
    · have HV := Lib.hid (vint_big h128)
      have HO := Lib.hid (byte_or m)
      go_wp2_with (at_builtin; refine wpList_append_lies rfl _ _ 61 rfl 5 i0 (.int .u8 0) 1 1 Tryz.underlying61 hi hz0 hz1 hz2 rfl (by decide) _ _ _ rfl (hrow.alloc _) ⟨wr.heap.size, 0, none⟩ 1 1 [.int .u8 (bits BinOp.or IntKind.u8 ((m : Int) % 256) 128)] rfl rfl ?c1 ?c2 (by decide) hmax hbytes ?_)
      case c1 => exact cell_one_new _ _ _
      case c2 => simp [Value.oneCell']
      intro v' w1 hown' hgrow hlies
      have hmv' := hmv.trans ((Moves.alloc wr _ _).trans (Moves.append hgrow hlies))
      clear hlies hgrow
      go_wp2
      refine ⟨⟨m / 128, k + 1, _, by omega, by omega, by go_num, ?_, hown', hmv'⟩, by simp [intOf]; omega⟩
      refine ⟨?_, ?_⟩
      · have h1 := HE.out.1
        rw [HV.out] at h1
        rw [← h1, HO.out]
        simp [byteV]
      · have h2 := HE.out.2
        rw [HV.out, List.length_cons] at h2
        omega
    · have HV := Lib.hid (vint_small (by omega : m < 128))
      go_wp2_with (at_builtin; refine wpList_append_lies rfl _ _ 61 rfl 5 i0 (.int .u8 0) 1 1 Tryz.underlying61 hi hz0 hz1 hz2 rfl (by decide) _ _ _ rfl (hrow.alloc _) ⟨wr.heap.size, 0, none⟩ 1 1 [.int .u8 (m : Int)] rfl rfl ?c3 ?c4 (by decide) hmax hbytes ?_)
      case c3 => exact cell_one_new _ _ _
      case c4 => simp [Value.oneCell']
      intro v' w1 hown' hgrow hlies
      have hmv' := hmv.trans ((Moves.alloc wr _ _).trans (Moves.append hgrow hlies))
      clear hlies hgrow
      go_wp2
      go_ret
      obtain ⟨h1, h2⟩ := HE.out
      rw [HV.out] at h1 h2
      refine ⟨v', rfl, ?_, hmv'⟩
      have e1 : ys ++ [Value.int .u8 (m : Int)] = xs ++ (vint n).map byteV := h1
      rw [e1, show l + k + 1 = l + (vint n).length by simp at h2; omega] at hown'
      exact hown'

theorem vint_length {n : Nat} (h : n < 1000000) : (vint n).length ≤ 3 := by
  rcases Nat.lt_or_ge n 128 with h1 | h1
  · rw [vint_small h1]; simp
  · rw [vint_big h1, List.length_cons]
    rcases Nat.lt_or_ge (n / 128) 128 with h2 | h2
    · rw [vint_small h2]; simp
    · rw [vint_big h2, List.length_cons, vint_small (by omega)]; simp
theorem vint_lt {n : Nat} (h : n < 1000000) : ∀ b ∈ vint n, b < 256 := by
  have small : ∀ m, m < 128 → ∀ b ∈ vint m, b < 256 := fun m hm b hb => by rw [vint_small hm] at hb; simp at hb; omega
  have big : ∀ m, 128 ≤ m → (∀ b ∈ vint (m / 128), b < 256) → ∀ b ∈ vint m, b < 256 := fun m hm ih b hb => by
    rw [vint_big hm] at hb
    rcases List.mem_cons.1 hb with rfl | hb
    · omega
    · exact ih b hb
  rcases Nat.lt_or_ge n 128 with h1 | h1
  · exact small n h1
  · refine big n h1 ?_
    rcases Nat.lt_or_ge (n / 128) 128 with h2 | h2
    · exact small _ h2
    · exact big _ h2 (small _ (by omega))
end Go.Proofs.Ts
/- Nodes of the builder in memory; its maps; and what settle makes of them, as a plain function. -/
set_option linter.unusedVariables false
set_option linter.unusedSimpArgs false
set_option linter.unusedSectionVars false
namespace Go.Proofs.Ts
open Go Go.RowKit

/-- A node: may a term end here; the bytes and the nodes to which they lead; the slice value that holds them. -/
structure Nd where
  final : Bool
  edges : List (UInt8 × Nat)
  v : Value

def edgeCells (es : List (UInt8 × Nat)) : List Value := es.flatMap fun p => [.int .u8 p.1.toNat, ptrV p.2]
theorem edgeCells_length (es : List (UInt8 × Nat)) : (edgeCells es).length = es.length * 2 := by
  induction es with
  | nil => rfl
  | cons p r ih => simp [edgeCells, List.flatMap_cons] at ih ⊢; omega
theorem edgeCells_append (a b : List (UInt8 × Nat)) : edgeCells (a ++ b) = edgeCells a ++ edgeCells b := by simp [edgeCells]
theorem edgeCells_at : ∀ (es : List (UInt8 × Nat)) (i : Nat) (p : UInt8 × Nat), es[i]? = some p → (edgeCells es)[i * 2]? = some (.int .u8 p.1.toNat) ∧ (edgeCells es)[i * 2 + 1]? = some (ptrV p.2)
  | [], i, p, h => by simp at h
  | y :: t, 0, p, h => by simp at h; subst h; simp [edgeCells]
  | y :: t, i + 1, p, h => by
    have ih := edgeCells_at t i p (by simpa using h)
    have e : edgeCells (y :: t) = .int .u8 y.1.toNat :: ptrV y.2 :: edgeCells t := by simp [edgeCells]
    rw [e, show (i + 1) * 2 = i * 2 + 1 + 1 by omega, show i * 2 + 1 + 1 + 1 = (i * 2 + 1) + 1 + 1 by omega]
    simpa using ih

abbrev Graph := Nat → Option Nd
def upd (G : Graph) (b : Nat) (nd : Nd) : Graph := fun k => if k = b then some nd else G k

/-- The graph's nodes lie in memory, all at or beyond B, each with a row of edges of its own. -/
structure NodesIn (B : Nat) (w : World) (G : Graph) : Prop where
  ge : ∀ b nd, G b = some nd → B ≤ b ∧ Past B nd.v
  node : ∀ b nd, G b = some nd → w.heap[b]? = some (.cells #[.bool nd.final, nd.v] 192 (0, 0))
  row : ∀ b nd, G b = some nd → w.ownsRow 0 194 2 nd.v nd.edges.length (edgeCells nd.edges)
  apart : ∀ b b' nd nd' g, b ≠ b' → G b = some nd → G b' = some nd' → nd.v.ownBlock = some g → nd'.v.ownBlock ≠ some g

/-- The builder: its nodes, what shapes it knows, what numbers. -/
structure St where
  G : Graph
  kn : List (Shape × Nat)
  ids : List (Nat × Nat)

def intV (n : Nat) : Value := .int .i64 n
def vals {α β : Type} (f : β → Value) (m : List (α × β)) : List (α × Value) := m.map fun p => (p.1, f p.2)
theorem get_vals {α β : Type} [DecidableEq α] (f : β → Value) (m : List (α × β)) (k : α) : get (vals f m) k = (get m k).map f := by
  induction m with
  | nil => rfl
  | cons p r ih =>
    unfold vals at *
    simp only [List.map_cons, get]
    split
    · rfl
    · exact ih
theorem put_vals {α β : Type} [DecidableEq α] (f : β → Value) (m : List (α × β)) (k : α) (v : β) : put (vals f m) k (f v) = vals f (put m k v) := by
  induction m with
  | nil => rfl
  | cons p r ih =>
    unfold vals at *
    simp only [List.map_cons, put]
    split
    · rfl
    · rw [ih]; rfl

/-- The builder's struct at bb, its maps at kb and ib. -/
structure StIn (B bb kb ib : Nat) (w : World) (s : St) : Prop where
  nodes : NodesIn B w s.G
  bb_ge : B ≤ bb
  kb_ge : B ≤ kb
  ib_ge : B ≤ ib
  ne : kb ≠ ib
  bld : w.heap[bb]? = some (.cells #[.map (some kb), .map (some ib)] 188 (0, 0))
  kn : MapIs shapeV w kb (vals ptrV s.kn)
  ids : MapIs ptrV w ib (vals intV s.ids)
  idsIn : ∀ p ∈ s.ids, (s.G p.1).isSome
  knIn : ∀ p ∈ s.kn, (s.G p.2).isSome
  toIn : ∀ b nd, s.G b = some nd → ∀ p ∈ nd.edges, (s.G p.2).isSome

/-- What tells nodes apart whose edges lead to numbered nodes. -/
def idOf (ids : List (Nat × Nat)) (t : Nat) : Nat := (get ids t).getD 0
def edgeText (ids : List (Nat × Nat)) (es : List (UInt8 × Nat)) : List UInt8 := es.flatMap fun p => p.1 :: (vint (idOf ids p.2)).map UInt8.ofNat
def shapeOf (ids : List (Nat × Nat)) (nd : Nd) : Shape := (nd.final, edgeText ids nd.edges)

/-- What becomes of a node n whose last edge leads to t, when all behind t is settled: t is known by its shape, or is new. -/
def hook (s : St) (n t : Nat) (ndn ndt : Nd) : St :=
  match get s.kn (shapeOf s.ids ndt) with
  | some m => { s with G := upd s.G n { ndn with edges := ndn.edges.dropLast ++ [((ndn.edges.getLast?.map (·.1)).getD 0, m)] } }
  | none => { s with kn := put s.kn (shapeOf s.ids ndt) t, ids := put s.ids t s.ids.length }

/-- settle, of a node n whose last edges lead on along a way. -/
def settleP : List Nat → St → Nat → St
  | [], s, _ => s
  | t :: ts, s, n =>
    match (settleP ts s t).G t, (settleP ts s t).G n with
    | some ndt, some ndn => hook (settleP ts s t) n t ndn ndt
    | _, _ => settleP ts s t

theorem hook_other {s : St} {n t k : Nat} {ndn ndt : Nd} (h : k ≠ n) : (hook s n t ndn ndt).G k = s.G k := by
  unfold hook
  split
  · simp [upd, h]
  · rfl
theorem hook_dom {s : St} {n t k : Nat} {ndn ndt : Nd} (h : (s.G k).isSome) : ((hook s n t ndn ndt).G k).isSome := by
  unfold hook
  split
  · simp only [upd]
    split
    · rfl
    · exact h
  · exact h
theorem settleP_cons {ts : List Nat} {s : St} {n t : Nat} {ndn ndt : Nd} (h1 : (settleP ts s t).G t = some ndt) (h2 : (settleP ts s t).G n = some ndn) :
    settleP (t :: ts) s n = hook (settleP ts s t) n t ndn ndt := by
  conv => lhs; unfold settleP
  rw [h1, h2]
theorem settleP_other : ∀ (ts : List Nat) (s : St) (t n : Nat), n ≠ t → ¬ n ∈ ts → (settleP ts s t).G n = s.G n
  | [], s, t, n, _, _ => rfl
  | u :: us, s, t, n, h1, h2 => by
    simp only [List.mem_cons, not_or] at h2
    have ih := settleP_other us s u n h2.1 h2.2
    unfold settleP
    split
    · rw [hook_other h1]; exact ih
    · exact ih
theorem settleP_dom : ∀ (ts : List Nat) (s : St) (t k : Nat), (s.G k).isSome → ((settleP ts s t).G k).isSome
  | [], s, t, k, h => h
  | u :: us, s, t, k, h => by
    have ih := settleP_dom us s u k h
    unfold settleP
    split
    · exact hook_dom ih
    · exact ih

/-- The last edges lead along this way, to a node without edges; no node of it is numbered. -/
def Way (s : St) : Nat → List Nat → Prop
  | n, [] => ∃ nd, s.G n = some nd ∧ nd.edges = []
  | n, t :: ts => (∃ nd c es, s.G n = some nd ∧ nd.edges = es ++ [(c, t)]) ∧ get s.ids t = none ∧ t ≠ n ∧ ¬ n ∈ ts ∧ Way s t ts
end Go.Proofs.Ts
/- A region that draws its order: some operations only read, and read the same in every world of a class; the others come in one forced order and keep the class. Then one order serves for all. No program of its own. -/
set_option linter.unusedSectionVars false
set_option linter.unusedVariables false
set_option linter.unusedSimpArgs false
namespace Go.Proofs.Ts
open Go Go.RowKit

section
variable {P : Program} {ops : Array Oper} {S : World → Prop} {Q : Exit → Act → World → Prop}

/-- The operations in the order of a list: 'true': one that may write; 'false': one that reads the same wherever S holds. Behind operation x, if it is the last, S need not hold. -/
def wpOrd (P : Program) (l : List Oper) (S : World → Prop) (x : Nat) (Q : Act → World → Prop) : List (Nat × Bool) → Act → World → Prop
  | [], a, w => Q a w
  | (i, true) :: rest, a, w =>
    match l[i]? with
    | none => False
    | some o => if Region.wanted o (yielded l.toArray a.tmps) then o.wp P a w (fun a' w' => (i ≠ x → S w') ∧ ((i = x → rest = []) ∧ wpOrd P l S x Q rest a' w')) (NoPanic fun _ _ _ => False) else wpOrd P l S x Q rest (a.put o.dst undef) w
  | (i, false) :: rest, a, w =>
    match l[i]? with
    | none => False
    | some o => ∃ v, YieldsIf P l.toArray S o v a ∧ wpOrd P l S x Q rest (a.put o.dst v) w

/-- The list is an order of all, in which a writer comes up only where nothing else can. -/
def ordB (ops : Array Oper) : List (Nat × Bool) → Array Bool → Bool
  | [], listed => Region.ready .any ops listed == []
  | (i, true) :: rest, listed => Region.ready .any ops listed == [i] && ordB ops rest (listed.setIfInBounds i true)
  | (i, false) :: rest, listed => (Region.ready .any ops listed).contains i && Region.free .any ops listed i && ordB ops rest (listed.setIfInBounds i true)

/-- Operation x (if there is one) waits for operation i. -/
def waitsB (ops : Array Oper) (x i : Nat) : Bool :=
  match ops[x]? with
  | none => true
  | some o => o.after.any fun e => Region.binds .any e && e.on == i

/-- Whatever order is picked; behind each operation but x the class is met. -/
def anyX (P : Program) (ops : Array Oper) (Q : Exit → Act → World → Prop) (S : World → Prop) (x : Nat) : Nat → Array Bool → Act → World → Prop
  | 0, listed, a, w => Region.ready .any ops listed = [] ∧ Q .normal a w
  | n + 1, listed, a, w =>
    (Region.ready .any ops listed = [] → Q .normal a w) ∧
    ∀ i ∈ Region.ready .any ops listed, wpOp P ops Q i (fun a' w' => (i ≠ x → S w') ∧ anyX P ops Q S x n (listed.setIfInBounds i true) a' w') a w

theorem wpAny_of_anyX {x : Nat} : ∀ (n : Nat) (listed : Array Bool) (a : Act) (w : World), anyX P ops Q S x n listed a w → wpAny P .any ops Q n listed a w
  | 0, _, _, _, h => h
  | n + 1, _, _, _, h => ⟨h.1, fun i hi => wpOp_mono (fun a' w' h' => wpAny_of_anyX n _ a' w' h'.2) (h.2 i hi)⟩

theorem waitsB_listed {x i : Nat} (h : waitsB ops x i = true) {listed : Array Bool} (hx : x ∈ Region.ready .any ops listed) : listed.getD i false = true := by
  obtain ⟨_, o, ho, hall⟩ := mem_ready.1 hx
  unfold waitsB at h
  rw [ho] at h
  obtain ⟨e, he, hb⟩ := Array.any_eq_true'.1 h
  simp only [Bool.and_eq_true, beq_iff_eq] at hb
  rw [← hb.2]
  exact hall e he hb.1

theorem unlisted_of_ready {i : Nat} {listed : Array Bool} (h : i ∈ Region.ready .any ops listed) : listed.getD i false = false := by
  have := (mem_ready.1 h).1
  rcases Nat.lt_or_ge i listed.size with h' | h'
  · simp [h'] at this ⊢; exact this
  · simp [Array.getElem?_eq_none h'] at this

/-- A reader that may come up may be taken first. -/
theorem anyX_first {x i : Nat} {oi : Oper} {v : Value} (hx : waitsB ops x i = true) (hi : ops[i]? = some oi) (hsel : Region.noSelect ops = true)
    (hQ : ∀ c a w, Q (.panic c) (a.put oi.dst v) w → Q (.panic c) a w) :
    ∀ (n : Nat) (listed : Array Bool) (a : Act) (w : World),
      (∀ j oj, ops[j]? = some oj → j ≠ i → listed.getD j true = false → (∀ e ∈ oj.after, Region.binds .any e = true → e.on ≠ i) → oi.apart ops oj = true) →
      i ∈ Region.ready .any ops listed → YieldsIf P ops S oi v a → S w →
      anyX P ops Q S x n (listed.setIfInBounds i true) (a.put oi.dst v) w → anyX P ops Q S x (n + 1) listed a w := by
  intro n
  induction n with
  | zero =>
    intro listed a w _ hr hy hS H
    refine ⟨fun h => (by rw [h] at hr; cases hr), fun j hj => ?_⟩
    by_cases hji : j = i
    · subst hji; exact hy.wpOp hi hS ⟨fun _ => hS, H⟩
    · have hc := ready_mono hj hji
      rw [H.1] at hc
      cases hc
  | succ n ih =>
    intro listed a w hfree hr hy hS H
    refine ⟨fun h => (by rw [h] at hr; cases hr), fun j hj => ?_⟩
    by_cases hji : j = i
    · subst hji; exact hy.wpOp hi hS ⟨fun _ => hS, H⟩
    · have hjx : j ≠ x := by
        rintro rfl
        have h1 := waitsB_listed hx hj
        rw [unlisted_of_ready hr] at h1
        cases h1
      have h1 := H.2 j (ready_mono hj hji)
      obtain ⟨hjun, oj, hoj, hall⟩ := mem_ready.1 hj
      have hnot : ∀ e ∈ oj.after, Region.binds .any e = true → e.on ≠ i := fun e he hb heq => by
        have h2 := hall e he hb
        rw [heq, unlisted_of_ready hr] at h2
        cases h2
      have h2 := wpOp_putIf hoj (hfree j oj hoj hji hjun hnot) (fun cs b => Region.noSelect_spec hsel i oi cs b hi) (fun cs b => Region.noSelect_spec hsel j oj cs b hoj) hQ hy h1
      have hfree' : ∀ k ok, ops[k]? = some ok → k ≠ i → (listed.setIfInBounds j true).getD k true = false → (∀ e ∈ ok.after, Region.binds .any e = true → e.on ≠ i) → oi.apart ops ok = true := fun k ok hk hki hun hno => by
        refine hfree k ok hk hki ?_ hno
        by_cases hjk : j = k
        · subst hjk; exact hjun
        · rw [getD_set_ne true hjk] at hun; exact hun
      refine wpOp_mono (fun a' w' h3 => ⟨fun _ => h3.2.1 hjx, ih (listed.setIfInBounds j true) a' w' hfree' (ready_mono hr (Ne.symm hji)) h3.1 (h3.2.1 hjx) ?_⟩) h2
      rw [Array.setIfInBounds_comm _ _ hji]
      exact h3.2.2

theorem anyX_of_ord {lo : List Oper} {x : Nat} (hs : Region.noSelect lo.toArray = true) {Q' : Exit → Act → World → Prop} (hQ : ∀ a w, Q .normal a w → Q' .normal a w) (hp : ∀ c a w, ¬ Q' (.panic c) a w) :
    ∀ (l : List (Nat × Bool)) (listed : Array Bool) (a : Act) (w : World), (∀ q ∈ l, q.2 = false → waitsB lo.toArray x q.1 = true) →
    ordB lo.toArray l listed = true → S w → wpOrd P lo S x (Q .normal) l a w → anyX P lo.toArray Q' S x l.length listed a w
  | [], listed, a, w, _, hB, _, h => by
    simp only [ordB, beq_iff_eq] at hB
    exact ⟨hB, hQ _ _ h⟩
  | (i, true) :: rest, listed, a, w, hl, hB, hS, h => by
    simp only [ordB, Bool.and_eq_true, beq_iff_eq] at hB
    obtain ⟨hr, hB'⟩ := hB
    have ih := anyX_of_ord (x := x) hs hQ hp rest (listed.setIfInBounds i true)
    refine ⟨fun h0 => (by rw [hr] at h0; cases h0), fun j hj => ?_⟩
    rw [hr] at hj
    obtain rfl : j = i := by simpa using hj
    unfold wpOrd at h
    unfold wpOp
    split at h
    · exact h.elim
    · rename_i o ho
      have ho' : lo.toArray[j]? = some o := by simpa using ho
      simp only [ho']
      split
      · rename_i hw
        rw [if_pos hw] at h
        refine .inl ?_
        refine Oper.wp_mono (K := fun a' w' => (j ≠ x → S w') ∧ ((j = x → rest = []) ∧ wpOrd P lo S x (Q .normal) rest a' w')) (fun a' w' hh => ⟨hh.1, ?_⟩) ?_
        · by_cases hjx : j = x
          · have := hh.2.1 hjx
            subst this
            simp only [ordB, beq_iff_eq] at hB'
            exact ⟨hB', hQ _ _ hh.2.2⟩
          · exact ih a' w' (fun q hq => hl q (List.mem_cons_of_mem _ hq)) hB' (hh.1 hjx) hh.2.2
        · unfold Oper.wp at h ⊢
          generalize (execOp a.eval o).run P w = r at *
          cases r with
          | ok n w' =>
            cases n <;> simp only [Oper.upon] at h ⊢
            case value => exact h
            case skip => exact h
            case defer => exact h
            case row => exact h
            case enter f args =>
              refine Calls.mono h fun e w'' he => ?_
              cases e with
              | returned v => exact he
              | panicked c => exact he.elim
              | outgrown => obtain ⟨_, _, hx⟩ := he; exact hx.elim
            all_goals exact h
          | halt x w' =>
            cases x <;> simp only [Oper.upon] at h ⊢
            all_goals exact h.elim
      · rename_i hw
        rw [if_neg hw] at h
        exact ⟨fun _ => hS, ih _ _ (fun q hq => hl q (List.mem_cons_of_mem _ hq)) hB' hS h⟩
  | (i, false) :: rest, listed, a, w, hl, hB, hS, h => by
    simp only [ordB, Bool.and_eq_true] at hB
    obtain ⟨⟨hr, hf⟩, hB'⟩ := hB
    have ih := anyX_of_ord (x := x) hs hQ hp rest (listed.setIfInBounds i true)
    unfold wpOrd at h
    split at h
    · exact h.elim
    · rename_i o ho
      obtain ⟨v, hy, hk⟩ := h
      have ho' : lo.toArray[i]? = some o := by simpa using ho
      exact anyX_first (hl (i, false) List.mem_cons_self rfl) ho' hs (fun c a w hq => (hp _ _ _ hq).elim) rest.length listed a w (Region.free_spec ho' hf) (by simpa using hr) hy hS (ih _ _ (fun q hq => hl q (List.mem_cons_of_mem _ hq)) hB' hS hk)

/-- ONE ORDER FOR ALL: x: an operation that waits for all others, behind which the class need not be met (or the number of operations: none). -/
theorem wp_region_ordX {id : Nat} {a : Act} {w : World} {l : List Oper} (order : List (Nat × Bool)) (x : Nat) (S : World → Prop) (hm : P.follows .mixedOrders = true)
    (hs : (Region.noSelect l.toArray && (order.all fun q => q.2 || waitsB l.toArray x q.1) && (order.length == l.length) && ordB l.toArray order (Array.replicate l.length false)) = true) (hS : S w.drew)
    (h : wpOrd P l S x (Q .normal) order a w.drew) : (Code.region id l.toArray true).wp P Q a w := by
  simp only [Bool.and_eq_true, beq_iff_eq] at hs
  obtain ⟨⟨⟨h1, h3⟩, h4⟩, h5⟩ := hs
  have h3' : ∀ q ∈ order, q.2 = false → waitsB l.toArray x q.1 = true := fun q hq hf => by
    have := List.all_eq_true.1 h3 q hq
    rw [hf] at this
    simpa using this
  refine wp_region_noPanic (wp_region_any hm (wpAny_of_anyX (S := S) (x := x) _ _ _ _ ?_))
  have := anyX_of_ord (Q := Q) (Q' := NoPanic Q) h1 (fun _ _ h => h) (fun _ _ _ h => h) order (Array.replicate l.length false) a w.drew h3' h5 hS h
  rw [h4] at this
  simpa using this
theorem wp_region_ord {id : Nat} {a : Act} {w : World} {l : List Oper} (order : List (Nat × Bool)) (S : World → Prop) (hm : P.follows .mixedOrders = true)
    (hs : (Region.noSelect l.toArray && (order.all fun q => q.2 || waitsB l.toArray 1000 q.1) && (order.length == l.length) && ordB l.toArray order (Array.replicate l.length false)) = true) (hS : S w.drew)
    (h : wpOrd P l S 1000 (Q .normal) order a w.drew) : (Code.region id l.toArray true).wp P Q a w := wp_region_ordX order 1000 S hm hs hS h

theorem wpOrd_nil {l : List Oper} {x : Nat} {Q : Act → World → Prop} {a : Act} {w : World} (h : Q a w) : wpOrd P l S x Q [] a w := h
theorem wpOrd_quiet {l : List Oper} {x : Nat} {Q : Act → World → Prop} {i : Nat} {rest : List (Nat × Bool)} {a : Act} {w : World} {o : Oper} (v : Value) (ho : l[i]? = some o) (hw : Region.wanted o (yielded l.toArray a.tmps) = true)
    (hv : ∀ w', S w' → (execOp a.eval o).run P w' = .ok (.value v) w') (h : wpOrd P l S x Q rest (a.put o.dst v) w) : wpOrd P l S x Q ((i, false) :: rest) a w := by
  unfold wpOrd
  rw [ho]
  exact ⟨v, .inl ⟨hw, hv⟩, h⟩
theorem wpOrd_skip {l : List Oper} {x : Nat} {Q : Act → World → Prop} {i : Nat} {rest : List (Nat × Bool)} {a : Act} {w : World} {o : Oper} (ho : l[i]? = some o) (hw : Region.wanted o (yielded l.toArray a.tmps) = false)
    (h : wpOrd P l S x Q rest (a.put o.dst undef) w) : wpOrd P l S x Q ((i, false) :: rest) a w := by
  unfold wpOrd
  rw [ho]
  exact ⟨undef, .inr ⟨hw, rfl⟩, h⟩
theorem wpOrd_loud {l : List Oper} {x : Nat} {Q : Act → World → Prop} {i : Nat} {rest : List (Nat × Bool)} {a : Act} {w : World} {o : Oper} (ho : l[i]? = some o) (hw : Region.wanted o (yielded l.toArray a.tmps) = true)
    (hx : i ≠ x) (h : ∀ K : Act → World → Prop, (∀ a' w', S w' → wpOrd P l S x Q rest a' w' → K a' w') → o.wp P a w K (NoPanic fun _ _ _ => False)) : wpOrd P l S x Q ((i, true) :: rest) a w := by
  unfold wpOrd
  rw [ho]
  simp only [hw, if_true]
  exact h _ fun a' w' h1 h2 => ⟨fun _ => h1, fun e => absurd e hx, h2⟩
theorem wpOrd_last {l : List Oper} {x : Nat} {Q : Act → World → Prop} {a : Act} {w : World} {o : Oper} (ho : l[x]? = some o) (hw : Region.wanted o (yielded l.toArray a.tmps) = true)
    (h : ∀ K : Act → World → Prop, (∀ a' w', Q a' w' → K a' w') → o.wp P a w K (NoPanic fun _ _ _ => False)) : wpOrd P l S x Q [(x, true)] a w := by
  unfold wpOrd
  rw [ho]
  simp only [hw, if_true]
  exact h _ fun a' w' h2 => ⟨fun e => absurd rfl e, by simp, h2⟩
/-- The slot that an operation writes, in a frame that is written out. -/
theorem put_lit (xs : List Value) (ds : List Deferred) (d : Nat) (v : Value) : ({ tmps := xs.toArray, defers := ds } : Act).put (some d) v = { tmps := (xs.set d v).toArray, defers := ds } := by
  simp [Act.put]
theorem put_none (a : Act) (v : Value) : a.put none v = a := rfl
end
end Go.Proofs.Ts
/- What a store, and what an entry more, make of the builder in memory. -/
set_option linter.unusedVariables false
set_option linter.unusedSimpArgs false
set_option linter.unusedSectionVars false
namespace Go.Proofs.Ts
open Go Go.RowKit

theorem StIn.nodeBlock {B bb kb ib : Nat} {w : World} {s : St} (h : StIn B bb kb ib w s) {b : Nat} {nd : Nd} (hG : s.G b = some nd) : b ≠ bb ∧ b ≠ kb ∧ b ≠ ib := by
  have hb := h.nodes.node b nd hG
  refine ⟨?_, ?_, ?_⟩
  · rintro rfl
    rw [h.bld] at hb
    simp at hb
  · rintro rfl
    obtain ⟨es, c, hk, _⟩ := h.kn
    rw [hk] at hb
    cases hb
  · rintro rfl
    obtain ⟨es, c, hk, _⟩ := h.ids
    rw [hk] at hb
    cases hb
theorem StIn.rowBlock {B bb kb ib : Nat} {w : World} {s : St} (h : StIn B bb kb ib w s) {b : Nat} {nd : Nd} (hG : s.G b = some nd) {g : Nat} (hg : nd.v.ownBlock = some g) :
    g ≠ bb ∧ g ≠ kb ∧ g ≠ ib ∧ ∀ b' nd', s.G b' = some nd' → g ≠ b' := by
  have hrow := h.nodes.row b nd hG
  have hh : ∃ cur, w.heap[g]? = some (.cells cur 194 (0, 0)) := by
    rcases hrow.2 with ⟨h1, _⟩ | ⟨g', cap, cur, h1, _, h2, _⟩
    · rw [h1] at hg; cases hg
    · rw [h1] at hg; cases hg; exact ⟨cur, h2⟩
  obtain ⟨cur, hh⟩ := hh
  refine ⟨?_, ?_, ?_, ?_⟩
  · rintro rfl
    rw [h.bld] at hh
    simp at hh
  · rintro rfl
    obtain ⟨es, c, hk, _⟩ := h.kn
    rw [hk] at hh
    cases hh
  · rintro rfl
    obtain ⟨es, c, hk, _⟩ := h.ids
    rw [hk] at hh
    cases hh
  · rintro b' nd' hG' rfl
    rw [h.nodes.node g nd' hG'] at hh
    simp at hh
theorem StIn.mapsApart {B bb kb ib : Nat} {w : World} {s : St} (h : StIn B bb kb ib w s) : bb ≠ kb ∧ bb ≠ ib := by
  refine ⟨?_, ?_⟩
  · rintro rfl
    obtain ⟨es, c, hk, _⟩ := h.kn
    rw [h.bld] at hk
    cases hk
  · rintro rfl
    obtain ⟨es, c, hk, _⟩ := h.ids
    rw [h.bld] at hk
    cases hk

theorem edgeCells_set (es : List (UInt8 × Nat)) (c : UInt8) (t m : Nat) : (edgeCells (es ++ [(c, t)])).set (es.length * 2 + 1) (ptrV m) = edgeCells (es ++ [(c, m)]) := by
  rw [edgeCells_append, edgeCells_append, List.set_append_right _ _ (by rw [edgeCells_length]; omega), edgeCells_length]
  simp [edgeCells]

/-- The last edge of a node leads elsewhere. -/
theorem StIn.relink {B bb kb ib : Nat} {w : World} {s : St} (h : StIn B bb kb ib w s) {n g cap t m : Nat} {c : UInt8} {es : List (UInt8 × Nat)} {nd : Nd} (hG : s.G n = some nd) (he : nd.edges = es ++ [(c, t)])
    (hv : nd.v = .slice (some ⟨g, 0, none⟩) (es.length + 1) cap) (hm : (s.G m).isSome) :
    StIn B bb kb ib (w.setCell ⟨g, es.length * 2 + 1, none⟩ (ptrV m)) { s with G := upd s.G n { nd with edges := es ++ [(c, m)] } } := by
  have hgo : nd.v.ownBlock = some g := by rw [hv]; rfl
  obtain ⟨n1, n2, n3, n4⟩ := h.rowBlock hG hgo
  have hsame : ∀ k, k ≠ g → (w.setCell ⟨g, es.length * 2 + 1, none⟩ (ptrV m)).heap[k]? = w.heap[k]? := fun k hk => Below.heap_setCell w _ _ k hk
  have hdom : ∀ k, (s.G k).isSome → ((upd s.G n { nd with edges := es ++ [(c, m)] }) k).isSome := fun k hk => by
    unfold upd
    split
    · rfl
    · exact hk
  refine ⟨⟨fun b nd' hb => ?_, fun b nd' hb => ?_, fun b nd' hb => ?_, fun b b' x x' g' hne hb hb' hx => ?_⟩, h.bb_ge, h.kb_ge, h.ib_ge, h.ne, (hsame bb (Ne.symm n1)).trans h.bld, h.kn.of_block (hsame kb (Ne.symm n2)),
    h.ids.of_block (hsame ib (Ne.symm n3)), fun p hp => hdom _ (h.idsIn p hp), fun p hp => hdom _ (h.knIn p hp), fun b nd' hb p hp => ?_⟩
  · simp only [upd] at hb
    split at hb
    · rename_i e
      cases hb
      exact h.nodes.ge n nd hG |> fun x => by rw [e]; exact x
    · exact h.nodes.ge b nd' hb
  · simp only [upd] at hb
    split at hb
    · rename_i e
      cases hb
      rw [hsame b (by rw [e]; exact Ne.symm (n4 n nd hG)), e]
      exact h.nodes.node n nd hG
    · rw [hsame b (Ne.symm (n4 b nd' hb))]
      exact h.nodes.node b nd' hb
  · simp only [upd] at hb
    split at hb
    · rename_i e
      cases hb
      have hr := h.nodes.row n nd hG
      rw [he, hv] at hr
      simp only [List.length_append, List.length_cons, List.length_nil, Nat.zero_add] at hr ⊢
      have := (hr.stored (es.length * 2 + 1) (ptrV m)).1
      rw [edgeCells_set] at this
      rw [hv]
      exact this
    · rename_i e
      refine ownsRow_block (h.nodes.row b nd' hb) fun k hk => hsame k ?_
      rintro rfl
      exact h.nodes.apart n b nd nd' k (Ne.symm e) hG hb hgo hk
  · simp only [upd] at hb hb'
    split at hb <;> split at hb'
    · rename_i e1 e2
      exact absurd (e1.trans e2.symm) hne
    · rename_i e1 e2
      cases hb
      exact h.nodes.apart n b' nd x' g' (by rw [← e1]; exact hne) hG hb' hx
    · rename_i e1 e2
      cases hb'
      exact h.nodes.apart b n x nd g' (by rw [← e2]; exact hne) hb hG hx
    · exact h.nodes.apart b b' x x' g' hne hb hb' hx
  · refine hdom _ ?_
    simp only [upd] at hb
    split at hb
    · cases hb
      rcases List.mem_append.1 hp with hp | hp
      · exact h.toIn n nd hG p (by rw [he]; exact List.mem_append_left _ hp)
      · simp at hp
        subst hp
        exact hm
    · exact h.toIn b nd' hb p hp

/-- An entry more in the map of shapes. -/
theorem StIn.learn {B bb kb ib : Nat} {w w' : World} {s : St} (h : StIn B bb kb ib w s) {k : Shape} {t : Nat} (ht : (s.G t).isSome) (hg : w.grownBy w' (some kb)) (hm : MapIs shapeV w' kb (put (vals ptrV s.kn) k (ptrV t))) :
    StIn B bb kb ib w' { s with kn := put s.kn k t } := by
  obtain ⟨a1, a2⟩ := h.mapsApart
  rw [put_vals] at hm
  have lt : ∀ {x : Nat} {o : Obj}, w.heap[x]? = some o → x < w.heap.size := fun hx => (Array.getElem?_eq_some_iff.1 hx).1
  refine ⟨⟨h.nodes.ge, fun b nd hb => ?_, fun b nd hb => ?_, h.nodes.apart⟩, h.bb_ge, h.kb_ge, h.ib_ge, h.ne, ?_, hm, h.ids.of_block (hg.block ib h.ids.lt (fun e => h.ne (Option.some.inj e).symm)), h.idsIn, fun p hp => ?_, h.toIn⟩
  · exact (hg.block b (lt (h.nodes.node b nd hb)) (fun e => (h.nodeBlock hb).2.1 (Option.some.inj e))).trans (h.nodes.node b nd hb)
  · exact ownsRow_block (h.nodes.row b nd hb) fun g hgo => hg.block g ((h.nodes.row b nd hb).lt g hgo).2 (fun e => (h.rowBlock hb hgo).2.1 (Option.some.inj e))
  · exact (hg.block bb (lt h.bld) (fun e => a1 (Option.some.inj e))).trans h.bld
  · rcases mem_put hp with rfl | hp
    · exact ht
    · exact h.knIn p hp
/-- A number more. -/
theorem StIn.count {B bb kb ib : Nat} {w w' : World} {s : St} (h : StIn B bb kb ib w s) {t x : Nat} (ht : (s.G t).isSome) (hg : w.grownBy w' (some ib)) (hm : MapIs ptrV w' ib (put (vals intV s.ids) t (intV x))) :
    StIn B bb kb ib w' { s with ids := put s.ids t x } := by
  obtain ⟨a1, a2⟩ := h.mapsApart
  rw [put_vals] at hm
  have lt : ∀ {x : Nat} {o : Obj}, w.heap[x]? = some o → x < w.heap.size := fun hx => (Array.getElem?_eq_some_iff.1 hx).1
  refine ⟨⟨h.nodes.ge, fun b nd hb => ?_, fun b nd hb => ?_, h.nodes.apart⟩, h.bb_ge, h.kb_ge, h.ib_ge, h.ne, ?_, h.kn.of_block (hg.block kb h.kn.lt (fun e => h.ne (Option.some.inj e))), hm, fun p hp => ?_, h.knIn, h.toIn⟩
  · exact (hg.block b (lt (h.nodes.node b nd hb)) (fun e => (h.nodeBlock hb).2.2 (Option.some.inj e))).trans (h.nodes.node b nd hb)
  · exact ownsRow_block (h.nodes.row b nd hb) fun g hgo => hg.block g ((h.nodes.row b nd hb).lt g hgo).2 (fun e => (h.rowBlock hb hgo).2.2.1 (Option.some.inj e))
  · exact (hg.block bb (lt h.bld) (fun e => a2 (Option.some.inj e))).trans h.bld
  · rcases mem_put hp with rfl | hp
    · exact ht
    · exact h.idsIn p hp
end Go.Proofs.Ts
/- The walk of the builder's settle. -/
set_option linter.unusedVariables false
set_option linter.unusedSimpArgs false
set_option linter.unusedSectionVars false
namespace Go.Proofs.Ts
open Go Go.RowKit

theorem cell_block {w : World} {b i : Nat} {cs : Array Value} {t : TypeId} (h : w.heap[b]? = some (.cells cs t (0, 0))) : w.cell? ⟨b, i, none⟩ = cs[i]? := by simp [World.cell?, h]
theorem free_block {w : World} {b i : Nat} {cs : Array Value} {t : TypeId} (h : w.heap[b]? = some (.cells cs t (0, 0))) : w.frozen? ⟨b, i, none⟩ = false := by simp [World.frozen?, h]
theorem lt_of_cell {w : World} {b i : Nat} {v : Value} (h : w.cell? ⟨b, i, none⟩ = some v) : b < w.heap.size := World.block_lt_of_cell? w _ h
theorem lt_of_heap {w : World} {b : Nat} {o : Obj} (h : w.heap[b]? = some o) : b < w.heap.size := (Array.getElem?_eq_some_iff.1 h).1

/-- What is small about a builder. -/
structure Small (s : St) : Prop where
  edges : ∀ b nd, s.G b = some nd → nd.edges.length ≤ 300
  ids : ∀ p ∈ s.ids, p.2 < 1000000
  len : s.ids.length < 1000000

theorem Small.hook {s : St} {n t : Nat} {ndn ndt : Nd} (h : Small s) (hn : s.G n = some ndn) (hl : s.ids.length + 1 < 1000000) : Small (hook s n t ndn ndt) ∧ (Ts.hook s n t ndn ndt).ids.length ≤ s.ids.length + 1 := by
  unfold Ts.hook
  split
  · refine ⟨⟨fun b nd hb => ?_, h.ids, h.len⟩, Nat.le_succ _⟩
    simp only [upd] at hb
    split at hb
    · cases hb
      have := h.edges n ndn hn
      simp
      omega
    · exact h.edges b nd hb
  · refine ⟨⟨h.edges, fun p hp => ?_, ?_⟩, ?_⟩
    · rcases mem_put hp with rfl | hp
      · exact h.len
      · exact h.ids p hp
    · have := length_put_le s.ids t s.ids.length; simp only; omega
    · exact length_put_le s.ids t s.ids.length
theorem Small.settleP : ∀ (ts : List Nat) (s : St) (t : Nat), Small s → s.ids.length + ts.length < 1000000 → Small (settleP ts s t) ∧ (Ts.settleP ts s t).ids.length ≤ s.ids.length + ts.length
  | [], s, t, h, hl => ⟨h, Nat.le_refl _⟩
  | u :: us, s, t, h, hl => by
    simp only [List.length_cons] at hl
    obtain ⟨h1, h2⟩ := Small.settleP us s u h (by omega)
    unfold Ts.settleP
    split
    · rename_i ndt ndn e1 e2
      obtain ⟨h3, h4⟩ := h1.hook (t := u) (ndt := ndt) e2 (by omega)
      exact ⟨h3, by simp only [List.length_cons]; omega⟩
    · exact ⟨h1, by simp only [List.length_cons]; omega⟩
theorem Small.idOf {s : St} (h : Small s) (t : Nat) : idOf s.ids t < 1000000 := by
  unfold Ts.idOf
  cases hg : get s.ids t with
  | none => simp
  | some x => exact h.ids _ (get_some_mem hg)
theorem edgeText_append (ids : List (Nat × Nat)) (a b : List (UInt8 × Nat)) : edgeText ids (a ++ b) = edgeText ids a ++ edgeText ids b := by simp [edgeText]
theorem edgeText_one (ids : List (Nat × Nat)) (c : UInt8) (t : Nat) : edgeText ids [(c, t)] = c :: (vint (idOf ids t)).map UInt8.ofNat := by simp [edgeText]
theorem edgeText_length {s : St} (h : Small s) (es : List (UInt8 × Nat)) : (edgeText s.ids es).length ≤ es.length * 4 := by
  induction es with
  | nil => simp [edgeText]
  | cons p r ih =>
    have e : edgeText s.ids (p :: r) = (p.1 :: (vint (Ts.idOf s.ids p.2)).map UInt8.ofNat) ++ edgeText s.ids r := by simp [edgeText]
    rw [e, List.length_append, List.length_cons, List.length_map, List.length_cons]
    have := vint_length (h.idOf p.2)
    omega
def byteC (b : UInt8) : Value := .int .u8 b.toNat
theorem byteC_vint {n : Nat} (h : n < 1000000) : ((vint n).map UInt8.ofNat).map byteC = (vint n).map byteV := by
  rw [List.map_map]
  apply List.map_congr_left
  intro b hb
  have := vint_lt h b hb
  simp only [Function.comp, byteC, byteV, UInt8.toNat_ofNat']
  rw [Nat.mod_eq_of_lt (by omega)]
/-- One edge more. -/
theorem edgeText_step {s : St} (h : Small s) {es : List (UInt8 × Nat)} {k : Nat} {c : UInt8} {t : Nat} (hk : es[k]? = some (c, t)) :
    (edgeText s.ids (es.take (k + 1))).map byteC = (edgeText s.ids (es.take k)).map byteC ++ [.int .u8 c.toNat] ++ (vint (Ts.idOf s.ids t)).map byteV ∧
    (edgeText s.ids (es.take (k + 1))).length = (edgeText s.ids (es.take k)).length + 1 + (vint (Ts.idOf s.ids t)).length := by
  obtain ⟨hlt, he⟩ := List.getElem?_eq_some_iff.1 hk
  rw [List.take_succ_eq_append_getElem hlt, he, edgeText_append, edgeText_one]
  refine ⟨?_, ?_⟩
  · rw [List.map_append, List.map_cons, byteC_vint (h.idOf t), List.append_assoc]
    rfl
  · simp
    omega

/-- 'string(b)' of a row of one's own. -/
theorem conv_row {P : Program} {src dst e : TypeId} (hs : P.underlying src = some (.slice e)) (he : P.underlying e = some (.int .u8)) (hd : P.underlying dst = some .string) {w : World} {v : Value} {l : List UInt8} {B n : Nat}
    (hn : n = l.length) (h : w.ownsRow B e 1 v n (l.map byteC)) : (convert src dst v).run P w = .ok (.string ⟨l.toArray⟩) w := by
  subst hn
  rcases h.2 with ⟨rfl, h0⟩ | ⟨g, cap, cur, rfl, _⟩
  · have : l = [] := List.eq_nil_of_length_eq_zero h0
    subst this
    exact Lib.run_convert_nil_bytes w src dst e 0 hs he hd
  · refine run_convert_bytes_back w src dst e ⟨g, 0, none⟩ cap l hs he hd fun j hj => ?_
    have hc := h.cellAt j (by omega)
    rw [List.getElem?_map, List.getElem?_eq_getElem hj] at hc
    simpa [Addr.add_lit, byteC] using hc

theorem settle_none (B bb kb ib : Nat) (s : St) (n : Nat) (w : World) (hs : StIn B bb kb ib w s) (hw : Way s n []) :
    Calls Tryz.prog 83 #[ptrV bb, ptrV n] w fun e w' => e = .returned (.tuple #[]) ∧ StIn B bb kb ib w' s ∧ Below B w w' := by
  obtain ⟨nd, hG, hnil⟩ := hw
  have hrow := hs.nodes.row n nd hG
  have hb := hs.nodes.node n nd hG
  rw [hnil] at hrow
  obtain ⟨a, cap, hv⟩ := ownsRow_form hrow
  rw [hv] at hb
  have c1 : w.cell? ⟨n, 1, none⟩ = some (.slice a 0 cap) := cell_block hb
  clear hb hrow hv hnil
  unfold ptrV
  go_enter Tryz.func83, Tryz.ntmps83
  go_wp2
  refine bodyPost_ret (results_none rfl _ _ _) rfl ?_
  exact ⟨rfl, hs, Below.refl _ _⟩

theorem NodesIn.same {B : Nat} {w w' : World} {G : Graph} (h : NodesIn B w G) (hS : Same w w') : NodesIn B w' G := by
  obtain ⟨n, rfl⟩ := hS
  exact ⟨h.ge, h.node, h.row, h.apart⟩
theorem StIn.same {B bb kb ib : Nat} {w w' : World} {s : St} (h : StIn B bb kb ib w s) (hS : Same w w') : StIn B bb kb ib w' s := by
  obtain ⟨n, rfl⟩ := hS
  exact ⟨h.nodes.same (Same.drewN w n), h.bb_ge, h.kb_ge, h.ib_ge, h.ne, h.bld, h.kn, h.ids, h.idsIn, h.knIn, h.toIn⟩
/-- Nothing of the builder's lies at or beyond H. -/
def Within (H : Nat) (s : St) (bb kb ib : Nat) : Prop := bb < H ∧ kb < H ∧ ib < H ∧ ∀ b nd, s.G b = some nd → b < H ∧ ∀ g, nd.v.ownBlock = some g → g < H
theorem StIn.within {B bb kb ib : Nat} {w : World} {s : St} (h : StIn B bb kb ib w s) : Within w.heap.size s bb kb ib :=
  ⟨lt_of_heap h.bld, h.kn.lt, h.ids.lt, fun b nd hb => ⟨lt_of_heap (h.nodes.node b nd hb), fun g hg => ((h.nodes.row b nd hb).lt g hg).2⟩⟩
theorem StIn.below {B bb kb ib : Nat} {w w' : World} {s : St} (h : StIn B bb kb ib w s) (hb : Below w.heap.size w w') : StIn B bb kb ib w' s := by
  obtain ⟨w1, w2, w3, w4⟩ := h.within
  refine ⟨⟨h.nodes.ge, fun b nd hG => (hb.block b (w4 b nd hG).1).trans (h.nodes.node b nd hG), fun b nd hG => ownsRow_block (h.nodes.row b nd hG) (fun k hk => hb.block k ((w4 b nd hG).2 k hk)), h.nodes.apart⟩,
    h.bb_ge, h.kb_ge, h.ib_ge, h.ne, (hb.block bb w1).trans h.bld, h.kn.of_block (hb.block kb w2), h.ids.of_block (hb.block ib w3), h.idsIn, h.knIn, h.toIn⟩
/-- A node's cells. -/
theorem StIn.nodeCells {B bb kb ib : Nat} {w : World} {s : St} (h : StIn B bb kb ib w s) {b : Nat} {nd : Nd} (hG : s.G b = some nd) :
    w.cell? ⟨b, 0, none⟩ = some (.bool nd.final) ∧ ∃ a cap, nd.v = .slice a nd.edges.length cap ∧ w.cell? ⟨b, 1, none⟩ = some (.slice a nd.edges.length cap) := by
  have hb := h.nodes.node b nd hG
  obtain ⟨a, cap, hv⟩ := ownsRow_form (h.nodes.row b nd hG)
  refine ⟨cell_block hb, a, cap, hv, ?_⟩
  rw [← hv]
  exact cell_block hb
/-- An edge's cells. -/
theorem StIn.edgeCells {B bb kb ib : Nat} {w : World} {s : St} (h : StIn B bb kb ib w s) {b : Nat} {nd : Nd} (hG : s.G b = some nd) {i : Nat} {c : UInt8} {t : Nat} (hi : nd.edges[i]? = some (c, t)) :
    ∃ g cap, nd.v = .slice (some ⟨g, 0, none⟩) nd.edges.length cap ∧ w.cell? ⟨g, i * 2, none⟩ = some (.int .u8 c.toNat) ∧ w.cell? ⟨g, i * 2 + 1, none⟩ = some (ptrV t) := by
  have hrow := h.nodes.row b nd hG
  have hlt := (List.getElem?_eq_some_iff.1 hi).1
  obtain ⟨m, hm⟩ : ∃ m, nd.edges.length = m + 1 := ⟨nd.edges.length - 1, by omega⟩
  rw [hm] at hrow
  obtain ⟨g, cap, hv⟩ := ownsRow_head hrow
  rw [hv] at hrow
  obtain ⟨e1, e2⟩ := edgeCells_at nd.edges i (c, t) hi
  exact ⟨g, cap, by rw [hm]; exact hv, (hrow.cellAt _ (by omega)).trans e1, (hrow.cellAt _ (by omega)).trans e2⟩

theorem StIn.cellsAt {B bb kb ib : Nat} {w : World} {s : St} (h : StIn B bb kb ib w s) {b : Nat} (hb : (s.G b).isSome) : cellsAt w b := by
  obtain ⟨nd, hnd⟩ := Option.isSome_iff_exists.1 hb
  exact ⟨_, _, h.nodes.node b nd hnd⟩
theorem StIn.idsCells {B bb kb ib : Nat} {w : World} {s : St} (h : StIn B bb kb ib w s) : ∀ p ∈ vals intV s.ids, Ts.cellsAt w p.1 := fun p hp => by
  obtain ⟨q, hq, rfl⟩ := List.mem_map.1 hp
  exact h.cellsAt (h.idsIn q hq)
/-- 'b.ids[x]'. -/
theorem StIn.lookId {B bb kb ib : Nat} {w : World} {s : St} (h : StIn B bb kb ib w s) {t : Nat} (ht : (s.G t).isSome) :
    (Instr.lookup 186 (.map (some ib)) (.pointer (some ⟨t, 0, none⟩)) false).run Tryz.prog w = .ok (.int .i64 (idOf s.ids t)) w := by
  have e := MapIs.lookup node_law h.ids t (h.cellsAt ht) h.idsCells Tryz.underlying186 (z := .int .i64 0) (by kernel_rfl) false
  rw [get_vals] at e
  unfold idOf
  cases hg : get s.ids t with
  | none => rw [hg] at e; exact e
  | some x => rw [hg] at e; exact e
/-- 'b.ids[x]', with ok, of a node that has no number. -/
theorem StIn.lookNone {B bb kb ib : Nat} {w : World} {s : St} (h : StIn B bb kb ib w s) {t : Nat} (ht : (s.G t).isSome) (hn : get s.ids t = none) :
    (Instr.lookup 186 (.map (some ib)) (.pointer (some ⟨t, 0, none⟩)) true).run Tryz.prog w = .ok (.tuple #[.int .i64 0, .bool false]) w := by
  have e := MapIs.lookup node_law h.ids t (h.cellsAt ht) h.idsCells Tryz.underlying186 (z := .int .i64 0) (by kernel_rfl) true
  rw [get_vals, hn] at e
  exact e
/-- 'b.known[k]', with ok. -/
theorem StIn.lookShape {B bb kb ib : Nat} {w : World} {s : St} (h : StIn B bb kb ib w s) (k : Shape) :
    (Instr.lookup 185 (.map (some kb)) (.agg #[.bool k.1, .string ⟨k.2.toArray⟩]) true).run Tryz.prog w =
      .ok (.tuple #[((get s.kn k).map ptrV).getD (.pointer none), .bool (get s.kn k).isSome]) w := by
  have e := MapIs.lookup shape_law h.kn k trivial (fun _ _ => trivial) Tryz.underlying185 (z := .pointer none) (by kernel_rfl) true
  rw [get_vals] at e
  rw [Option.isSome_map] at e
  exact e

set_option maxRecDepth 100000 in
set_option maxHeartbeats 2000000 in
theorem settle_some (B bb kb ib : Nat) (t : Nat) (ts : List Nat)
    (ih : ∀ (s : St) (w : World), StIn B bb kb ib w s → Way s t ts → Small s → s.ids.length + ts.length < 1000000 → Calls Tryz.prog 83 #[ptrV bb, ptrV t] w fun e w' => e = .returned (.tuple #[]) ∧ StIn B bb kb ib w' (settleP ts s t) ∧ Below B w w')
    (s : St) (n : Nat) (w : World) (hs : StIn B bb kb ib w s) (hw : Way s n (t :: ts)) (hsm : Small s) (hlen : s.ids.length + (t :: ts).length < 1000000) :
    Calls Tryz.prog 83 #[ptrV bb, ptrV n] w fun e w' => e = .returned (.tuple #[]) ∧ StIn B bb kb ib w' (settleP (t :: ts) s n) ∧ Below B w w' := by
  obtain ⟨⟨nd, c, es, hG, hedges⟩, hid, htn, hnts, hway⟩ := hw
  have hrow := hs.nodes.row n nd hG
  have hb := hs.nodes.node n nd hG
  rw [hedges] at hrow
  simp only [List.length_append, List.length_cons, List.length_nil, Nat.zero_add] at hrow
  obtain ⟨g, cap, hv⟩ := ownsRow_head hrow
  rw [hv] at hb hrow
  have c1 : w.cell? ⟨n, 1, none⟩ = some (.slice (some ⟨g, 0, none⟩) (es.length + 1) cap) := cell_block hb
  have ce0 : w.cell? ⟨g, es.length * 2, none⟩ = some (.int .u8 c.toNat) := by
    rw [hrow.cellAt _ (by omega), edgeCells_append, List.getElem?_append_right (by rw [edgeCells_length]; omega), edgeCells_length]; simp [edgeCells]
  have ce1 : w.cell? ⟨g, es.length * 2 + 1, none⟩ = some (ptrV t) := by
    rw [hrow.cellAt _ (by omega), edgeCells_append, List.getElem?_append_right (by rw [edgeCells_length]; omega), edgeCells_length]; simp [edgeCells]
  have b0 : w.cell? ⟨bb, 0, none⟩ = some (.map (some kb)) := cell_block hs.bld
  have b1 : w.cell? ⟨bb, 1, none⟩ = some (.map (some ib)) := cell_block hs.bld
  have hles : es.length ≤ 300 := by have := hsm.edges n nd hG; rw [hedges] at this; simp at this; omega
  clear hb hrow
  have hlen' : s.ids.length + ts.length < 1000000 := by simp only [List.length_cons] at hlen; omega
  have HV := Lib.hid hv
  clear hv
  have tcell : ∃ ndt, s.G t = some ndt := by
    cases ts with
    | nil => obtain ⟨x, hx, _⟩ := hway; exact ⟨x, hx⟩
    | cons u us => obtain ⟨⟨x, _, _, hx, _⟩, _⟩ := hway; exact ⟨x, hx⟩
  obtain ⟨ndt, hGt⟩ := tcell
  have hl1 : ∀ m, (Instr.lookup 186 (.map (some ib)) (.pointer (some ⟨t, 0, none⟩)) true).run Tryz.prog (w.drewN m) = .ok (.tuple #[.int .i64 0, .bool false]) (w.drewN m) := fun m =>
    (hs.same (Same.drewN w m)).lookNone (by rw [hGt]; rfl) hid
  unfold ptrV at ce1 ⊢
  go_enter Tryz.func83, Tryz.ntmps83
  go_wp2_with fail
  have q1 : IntKind.i64.wrap ((es.length : Int) + 1 - 1) = (es.length : Int) := by rw [IntWalk.i64_in _ (by omega)]; omega
  have q2 : (0 : Int) ≤ (es.length : Int) ∧ (es.length : Int) < (es.length : Int) + 1 := by omega
  go_quiet (fail)
  clear q1 q2
  go_wp2_with fail
  go_quiet (fail)
  go_wp2_with fail
  refine (ih s _ (hs.same (Same.drewN _ _)) hway hsm hlen').mono ?_
  rintro e w1 ⟨rfl, hs1, hb1⟩
  have hGn1 : (settleP ts s t).G n = some nd := (settleP_other ts s t n (Ne.symm htn) hnts).trans hG
  obtain ⟨nd1, hGt1⟩ := Option.isSome_iff_exists.1 (settleP_dom ts s t t (by rw [hGt]; rfl))
  have HP := Lib.hid (settleP_cons hGt1 hGn1)
  have hsm1 : Small (settleP ts s t) := (hsm.settleP ts s t hlen').1
  generalize settleP ts s t = s1 at *
  clear hl1 c1 ce0 ce1 b0 b1 hway hid
  have hs1h := Lib.hid hs1
  obtain ⟨ct0, a1, cap1, hv1, ct1⟩ := hs1.nodeCells hGt1
  obtain ⟨cn0, _⟩ := hs1.nodeCells hGn1
  have ce1 : w1.cell? ⟨g, es.length * 2 + 1, none⟩ = some (.pointer (some ⟨t, 0, none⟩)) := by
    obtain ⟨g', cap', e1, _, e3⟩ := hs1.edgeCells hGn1 (i := es.length) (c := c) (t := t) (by rw [hedges]; simp)
    have eb := congrArg Value.ownBlock (HV.out.symm.trans e1)
    simp [Value.ownBlock] at eb
    subst eb
    exact e3
  have b0 : w1.cell? ⟨bb, 0, none⟩ = some (.map (some kb)) := cell_block hs1.bld
  have b1 : w1.cell? ⟨bb, 1, none⟩ = some (.map (some ib)) := cell_block hs1.bld
  have hv1' := Lib.hid hv1
  clear hs1 hv1
  have hlen1 : nd1.edges.length ≤ 300 := hsm1.edges t nd1 hGt1
  go_wp2_with fail
  go_loopw [7, 57] (fun sv i wr => ∃ k : Nat, k ≤ nd1.edges.length ∧ i = .int .i64 k ∧ wr.ownsRow 0 5 1 sv (edgeText s1.ids (nd1.edges.take k)).length ((edgeText s1.ids (nd1.edges.take k)).map byteC) ∧ Past w1.heap.size sv ∧ Below w1.heap.size w1 wr)
    (fun _ i _ => nd1.edges.length - (intOf i).toNat)
  case atStart => exact ⟨0, Nat.zero_le _, rfl, World.ownsRow_nil _ _ _ _, (fun k hk => by cases hk), Below.refl _ _⟩
  case round =>
    obtain ⟨k, hk, rfl, hrow, hpast, hbl⟩ := hrel
    by_cases hlt : k < nd1.edges.length
    · obtain ⟨c', t', hct⟩ : ∃ c' t', nd1.edges[k]? = some (c', t') := ⟨_, _, List.getElem?_eq_getElem hlt⟩
      obtain ⟨g1, cap1', e1, ek0, ek1⟩ := (hs1h.out.below hbl).edgeCells hGt1 hct
      rw [hv1'.out] at e1
      simp only [Value.slice.injEq, true_and] at e1
      obtain ⟨rfl, rfl⟩ := e1
      unfold ptrV at ek1
      have hW := hs1h.out.below hbl
      have htl : (edgeText s1.ids (nd1.edges.take k)).length ≤ 1200 := by have := edgeText_length hsm1 (nd1.edges.take k); rw [List.length_take] at this; omega
      have hid' := hsm1.idOf t'
      have hstep := Lib.hid (edgeText_step hsm1 hct)
      go_wp2_with fail
      refine wp_region_ord [(0, false), (1, false), (2, false), (5, false), (6, false), (7, false), (8, false), (9, false), (10, false), (11, false), (3, true), (4, true), (12, true), (13, false)]
        (fun w' => Below w1.heap.size w1 w' ∧ w'.heap[wr.heap.size]? = some (.cells #[.int .u8 c'.toNat, .pointer (some ⟨t', 0, none⟩)] 194 (0, 0))) (by kernel_rfl) (by kernel_rfl) ?_ ?_
      · exact ⟨(hbl.alloc hbl.size _).drew, heap_alloc_new _ _⟩
      have hpW : ∀ W, Below w1.heap.size w1 W → (Instr.lookup 186 (.map (some ib)) (.pointer (some ⟨t', 0, none⟩)) false).run Tryz.prog W = .ok (.int .i64 (idOf s1.ids t')) W :=
        fun W hB => (hs1h.out.below hB).lookId (hs1h.out.toIn t nd1 hGt1 (c', t') (List.mem_of_getElem? hct))
      have HpW := Lib.hid hpW
      clear hpW
      iterate 10 (
        refine wpOrd_quiet ?_ rfl rfl (fun w' hS => ?_) ?_
        rotate_left
        · have hS1 := hS.1
          have hS2 := hS.2
          have f0 : w'.cell? ⟨wr.heap.size, 0, none⟩ = some (.int .u8 c'.toNat) := cell_block hS2
          have f1 : w'.cell? ⟨wr.heap.size, 1, none⟩ = some (.pointer (some ⟨t', 0, none⟩)) := cell_block hS2
          have f2 : w'.cell? ⟨bb, 1, none⟩ = some (.map (some ib)) := cell_block (hs1h.out.below hS1).bld
          have f3 := HpW.out w' hS1
          clear hS hS1 hS2
          go_simp
          first | rfl | done
        simp only [put_lit, List.set_cons_succ, List.set_cons_zero])
      refine wpOrd_loud rfl rfl (by decide) (fun K hK => ?_)
      go_simp
      have hB3 : Below w1.heap.size w1 ((wr.alloc (.cells #[.int .u8 c'.toNat, .pointer (some ⟨t', 0, none⟩)] 194)).alloc (.cells #[.int .u8 c'.toNat] 5)).drew :=
        ((hbl.alloc hbl.size _).alloc (by have := hbl.size; simp; omega) _).drew
      have hF3 : ((wr.alloc (.cells #[.int .u8 c'.toNat, .pointer (some ⟨t', 0, none⟩)] 194)).alloc (.cells #[.int .u8 c'.toNat] 5)).drew.heap[wr.heap.size]? = some (.cells #[.int .u8 c'.toNat, .pointer (some ⟨t', 0, none⟩)] 194 (0, 0)) :=
        heap_alloc2_old _ _ _
      have hrow3 : ((wr.alloc (.cells #[.int .u8 c'.toNat, .pointer (some ⟨t', 0, none⟩)] 194)).alloc (.cells #[.int .u8 c'.toNat] 5)).drew.ownsRow 0 5 1 u7 (edgeText s1.ids (nd1.edges.take k)).length ((edgeText s1.ids (nd1.edges.take k)).map byteC) :=
        ((hrow.alloc _).alloc _).drew
      have hc3 : ∀ j u, [Value.int .u8 c'.toNat][j]? = some u → ((wr.alloc (.cells #[.int .u8 c'.toNat, .pointer (some ⟨t', 0, none⟩)] 194)).alloc (.cells #[.int .u8 c'.toNat] 5)).drew.cell? ((⟨wr.heap.size + 1, 0, none⟩ : Addr).add j) = some u := by
        have := cell_one_new (wr.alloc (.cells #[.int .u8 c'.toNat, .pointer (some ⟨t', 0, none⟩)] 194)) (.int .u8 c'.toNat) 5
        simpa using this
      have hsz3 : ((wr.alloc (.cells #[.int .u8 c'.toNat, .pointer (some ⟨t', 0, none⟩)] 194)).alloc (.cells #[.int .u8 c'.toNat] 5)).drew.heap.size = wr.heap.size + 2 := by simp
      generalize ((wr.alloc (.cells #[.int .u8 c'.toNat, .pointer (some ⟨t', 0, none⟩)] 194)).alloc (.cells #[.int .u8 c'.toNat] 5)).drew = W3 at *
      refine hK _ _ ⟨hB3, hF3⟩ ?_
      clear hK K
      refine wpOrd_loud rfl rfl (by decide) (fun K hK => ?_)
      obtain ⟨i0, hi, hz0, hz1, hz2⟩ := info_parts Tryz.tsInfo5
      refine wp_append_lies _ _ 61 rfl 5 i0 (.int .u8 0) 1 1 Tryz.underlying61 hi hz0 hz1 hz2 rfl (by decide) _ _ _ rfl hrow3 ⟨wr.heap.size + 1, 0, none⟩ 1 1 [.int .u8 c'.toNat] rfl rfl hc3 (by simp [Value.oneCell']) (by decide) (by unfold maxLen; omega) (by omega) ?_
      intro v4 W4 hrow4 hgrow4 hlies4
      have hpast4 : Past w1.heap.size v4 := (Moves.append hgrow4 hlies4).past hpast (by have := hB3.size; omega)
      have hB4 : Below w1.heap.size w1 W4 := hB3.grown hgrow4 (by have := hB3.size; omega) hpast
      have hFne : u7.ownBlock ≠ some wr.heap.size := fun e => by have := (hrow.lt _ e).2; omega
      have hF4 : W4.heap[wr.heap.size]? = some (.cells #[.int .u8 c'.toNat, .pointer (some ⟨t', 0, none⟩)] 194 (0, 0)) :=
        (hgrow4.block _ (by omega) (Ne.symm hFne)).trans hF3
      have hmv4 := Moves.append hgrow4 hlies4
      clear hgrow4 hlies4
      refine hK _ _ ⟨hB4, hF4⟩ ?_
      clear hK K
      simp only [put_lit, List.set_cons_succ, List.set_cons_zero]
      refine wpOrd_loud rfl rfl (by decide) (fun K hK => ?_)
      go_simp
      refine (put_any v4 _ _ (idOf s1.ids t') W4 hid' (by omega) hrow4).mono ?_
      rintro e W5 ⟨v5, rfl, hrow5, hmv5⟩
      have hB5 : Below w1.heap.size w1 W5 := hmv5.below hpast4 hB4 hB4.size
      have hF5 : W5.heap[wr.heap.size]? = some (.cells #[.int .u8 c'.toNat, .pointer (some ⟨t', 0, none⟩)] 194 (0, 0)) := by
        refine (hmv5.block (by have := hmv4.size; omega) ?_).trans hF4
        rcases hmv4.lies with h | ⟨g', h, hg'⟩
        · rw [h]; exact hFne
        · rw [h]; intro e; cases e; omega
      have hpast5 := hmv5.past hpast4 hB4.size
      refine hK _ _ ⟨hB5, hF5⟩ ?_
      clear hK K
      refine wpOrd_quiet ?_ rfl rfl (fun w' hS => ?_) ?_
      rotate_left
      · go_simp
        first | rfl | done
      refine wpOrd_nil ?_
      rw [← hstep.out.1, ← hstep.out.2] at hrow5
      go_wp2
      exact ⟨⟨k + 1, by omega, by go_num, hrow5, hpast5, hB5⟩, by simp [intOf]; omega⟩
    · obtain rfl : k = nd1.edges.length := by omega
      rw [List.take_length] at hrow
      have hW := Lib.hid (hs1h.out.below hbl)
      have hcv : ∀ W, Below wr.heap.size wr W → (convert 61 9 u7).run Tryz.prog W = .ok (.string ⟨(edgeText s1.ids nd1.edges).toArray⟩) W := fun W hB =>
        conv_row Tryz.underlying61 Tryz.underlying5 Tryz.underlying9 rfl (ownsRow_block hrow fun k hk => hB.block k (hrow.lt k hk).2)
      have HCV := Lib.hid hcv
      clear hcv
      have dt0 : wr.cell? ⟨t, 0, none⟩ = some (.bool nd1.final) := (hW.out.nodeCells hGt1).1
      have de1 : wr.cell? ⟨g, es.length * 2 + 1, none⟩ = some (.pointer (some ⟨t, 0, none⟩)) := by
        rw [hbl.cell (by exact lt_of_cell ce1)]; exact ce1
      have lg := lt_of_cell de1
      have lt' := lt_of_cell dt0
      go_wp2_with fail
      refine wp_region_ord [(0, false), (1, false), (2, false), (3, false), (4, false), (5, false), (6, false), (7, false), (8, false), (9, false), (10, true), (11, true)]
        (fun w' => Below wr.heap.size wr w') (by kernel_rfl) (by kernel_rfl) ?_ ?_
      · exact (Below.refl _ wr).drew
      iterate 10 (
        refine wpOrd_quiet ?_ rfl rfl (fun w' hS => ?_) ?_
        rotate_left
        · have f0 : w'.cell? ⟨t, 0, none⟩ = some (.bool nd1.final) := (hS.cell (p := ⟨t, 0, none⟩) lt').trans dt0
          have f1 : w'.cell? ⟨g, es.length * 2 + 1, none⟩ = some (.pointer (some ⟨t, 0, none⟩)) := (hS.cell (p := ⟨g, _, none⟩) lg).trans de1
          have f3 := HCV.out w' hS
          clear hS
          go_simp
          first | rfl | done
        simp only [put_lit, List.set_cons_succ, List.set_cons_zero])
      refine wpOrd_loud rfl rfl (by decide) (fun K hK => ?_)
      go_simp
      refine hK _ _ ?_ ?_
      · exact ((Below.refl _ wr).alloc (Nat.le_refl _) _).drew
      clear hK K
      refine wpOrd_loud rfl rfl (by decide) (fun K hK => ?_)
      go_simp
      refine hK _ _ ?_ ?_
      · exact ((Below.refl _ wr).alloc (Nat.le_refl _) _).drew
      clear hK K
      refine wpOrd_nil ?_
      go_wp2_with fail
      have hBk : Below wr.heap.size wr (wr.alloc (.cells #[.bool nd1.final, .string ⟨(edgeText s1.ids nd1.edges).toArray⟩] 252)).drew := ((Below.refl _ wr).alloc (Nat.le_refl _) _).drew
      have hKk : (wr.alloc (.cells #[.bool nd1.final, .string ⟨(edgeText s1.ids nd1.edges).toArray⟩] 252)).drew.heap[wr.heap.size]? = some (.cells #[.bool nd1.final, .string ⟨(edgeText s1.ids nd1.edges).toArray⟩] 252 (0, 0)) := heap_alloc_new _ _
      generalize (wr.alloc (.cells #[.bool nd1.final, .string ⟨(edgeText s1.ids nd1.edges).toArray⟩] 252)).drew = Wk at *
      have hSk := hW.out.below hBk
      have k0 : Wk.cell? ⟨wr.heap.size, 0, none⟩ = some (.bool nd1.final) := cell_block hKk
      have k1 : Wk.cell? ⟨wr.heap.size, 1, none⟩ = some (.string ⟨(edgeText s1.ids nd1.edges).toArray⟩) := cell_block hKk
      have kb0 : Wk.cell? ⟨bb, 0, none⟩ = some (.map (some kb)) := cell_block hSk.bld
      have kb1 : Wk.cell? ⟨bb, 1, none⟩ = some (.map (some ib)) := cell_block hSk.bld
      have hlk : ∀ m, (Instr.lookup 185 (.map (some kb)) (.agg #[.bool nd1.final, .string ⟨(edgeText s1.ids nd1.edges).toArray⟩]) true).run Tryz.prog (Wk.drewN m) =
          .ok (.tuple #[((get s1.kn (shapeOf s1.ids nd1)).map ptrV).getD (.pointer none), .bool (get s1.kn (shapeOf s1.ids nd1)).isSome]) (Wk.drewN m) := fun m => (hSk.same (Same.drewN Wk m)).lookShape (shapeOf s1.ids nd1)
      clear ct0 cn0 ce1 b0 b1 dt0 de1 lg lt' HCV
      have HKk := Lib.hid hKk
      clear hKk
      unfold hook at HP
      have HSk := Lib.hid hSk
      have hmg : ∀ m, get s1.kn (shapeOf s1.ids nd1) = some m → (s1.G m).isSome := fun m h => hs1h.out.knIn _ (get_some_mem h)
      have hBB : Below B w Wk := by
        have x1 : Below B w w1 := (Same.drewN w _).below B |>.trans hb1
        have x2 : Below B w1 wr := hbl.mono (by have := hb1.size; have := (hs1h.out.nodes.ge n nd hGn1).1; have := lt_of_heap (hs1h.out.nodes.node n nd hGn1); omega)
        have x3 : Below B wr Wk := hBk.mono (by have := hbl.size; have := (hs1h.out.nodes.ge n nd hGn1).1; have := lt_of_heap (hs1h.out.nodes.node n nd hGn1); omega)
        exact x1.trans (x2.trans x3)
      clear hSk hBk hW
      cases hget : get s1.kn (shapeOf s1.ids nd1) with
      | some m =>
        have hmG := hmg m hget
        rw [hget] at hlk HP
        clear hmg hget
        simp only [Option.map_some, Option.getD_some, Option.isSome_some, ptrV] at hlk
        have hrel := Lib.hid (HSk.out.relink hGn1 hedges HV.out hmG)
        have cg : Wk.cell? ⟨g, es.length * 2 + 1, none⟩ = some (.pointer (some ⟨t, 0, none⟩)) := by
          obtain ⟨g', cap', e1, _, e3⟩ := HSk.out.edgeCells hGn1 (i := es.length) (c := c) (t := t) (by rw [hedges]; simp)
          have eb := congrArg Value.ownBlock (HV.out.symm.trans e1)
          simp [Value.ownBlock] at eb
          subst eb
          exact e3
        have fg : Wk.frozen? ⟨g, es.length * 2 + 1, none⟩ = false := by
          have hr := HSk.out.nodes.row n nd hGn1
          rw [hedges, HV.out] at hr
          simp only [List.length_append, List.length_cons, List.length_nil, Nat.zero_add] at hr
          exact hr.frozenAt _
        have hgB : B ≤ g := (HSk.out.nodes.ge n nd hGn1).2 g (by rw [HV.out]; rfl)
        go_quiet (fail)
        go_wp2_with fail
        refine bodyPost_ret (results_none rfl _ _ _) rfl ?_
        refine ⟨rfl, ?_, ?_⟩
        · rw [HP.out]
          have e1 : nd.edges.dropLast ++ [((nd.edges.getLast?.map (·.1)).getD 0, m)] = es ++ [(c, m)] := by rw [hedges]; simp
          rw [e1]
          exact hrel.out.same (Same.drewN _ _)
        · exact (hBB.setCell (p := ⟨g, _, none⟩) hgB _).trans ((Same.drewN _ _).below B)
      | none =>
        rw [hget] at hlk HP
        clear hmg hget
        simp only [Option.map_none, Option.getD_none, Option.isSome_none] at hlk
        have htG : (s1.G t).isSome := by rw [hGt1]; rfl
        have e1 : ∀ W, Same Wk W → W.cell? ⟨g, es.length * 2 + 1, none⟩ = some (.pointer (some ⟨t, 0, none⟩)) := fun W hS => by
          obtain ⟨g', cap', e1, _, e3⟩ := (HSk.out.same hS).edgeCells hGn1 (i := es.length) (c := c) (t := t) (by rw [hedges]; simp)
          have eb := congrArg Value.ownBlock (HV.out.symm.trans e1)
          simp [Value.ownBlock] at eb
          subst eb
          exact e3
        have E1 := Lib.hid e1
        clear e1
        go_quiet (fail)
        go_wp2_with fail
        obtain ⟨Wl, hSl, rfl⟩ : ∃ Wl, Same Wk Wl ∧ Wl = Wk.drewN nq := ⟨_, Same.drewN _ _, rfl⟩
        generalize Wk.drewN nq = Wl at *
        have cl0 : Wl.cell? ⟨wr.heap.size, 0, none⟩ = some (.bool nd1.final) := (hSl.cell _).trans k0
        have cl1 : Wl.cell? ⟨wr.heap.size, 1, none⟩ = some (.string ⟨(edgeText s1.ids nd1.edges).toArray⟩) := (hSl.cell _).trans k1
        have cl2 : Wl.cell? ⟨bb, 0, none⟩ = some (.map (some kb)) := (hSl.cell _).trans kb0
        have cl3 : Wl.cell? ⟨bb, 1, none⟩ = some (.map (some ib)) := (hSl.cell _).trans kb1
        have cl4 := E1.out Wl hSl
        have hSL := Lib.hid (HSk.out.same hSl)
        clear k0 k1 kb0 kb1 hlk
        have nk : wr.heap.size ≠ kb := by have := (hs1h.out.kn.lt); have := hbl.size; omega
        have ni : wr.heap.size ≠ ib := by have := (hs1h.out.ids.lt); have := hbl.size; omega
        obtain ⟨nbk, nbi⟩ := hs1h.out.mapsApart
        obtain ⟨_, ngk, ngi, _⟩ := hs1h.out.rowBlock hGn1 (g := g) (by rw [HV.out]; rfl)
        refine wp_region_ord [(0, false), (1, false), (2, false), (3, false), (4, false), (5, false), (6, false), (7, false), (8, false), (9, true)]
          (fun w' => w'.cell? ⟨wr.heap.size, 0, none⟩ = some (.bool nd1.final) ∧ w'.cell? ⟨wr.heap.size, 1, none⟩ = some (.string ⟨(edgeText s1.ids nd1.edges).toArray⟩) ∧ w'.cell? ⟨bb, 0, none⟩ = some (.map (some kb)) ∧
            w'.cell? ⟨bb, 1, none⟩ = some (.map (some ib)) ∧ w'.cell? ⟨g, es.length * 2 + 1, none⟩ = some (.pointer (some ⟨t, 0, none⟩))) (by kernel_rfl) (by kernel_rfl) ?_ ?_
        · exact ⟨cl0, cl1, cl2, cl3, cl4⟩
        iterate 9 (
          refine wpOrd_quiet ?_ rfl rfl (fun w' hS => ?_) ?_
          rotate_left
          · obtain ⟨f0, f1, f2, f3, f4⟩ := hS
            go_simp
            first | rfl | done
          simp only [put_lit, List.set_cons_succ, List.set_cons_zero])
        refine wpOrd_loud rfl rfl (by decide) (fun K hK => ?_)
        have hSL1 := hSL.out.same (Same.drew Wl)
        obtain ⟨W2, hrun2, hmap2, hg2, hz2⟩ := MapIs.update shape_law hSL1.kn (shapeOf s1.ids nd1) trivial (fun _ _ => trivial) Tryz.underlying185 (ptrV t)
        have hrun2' : (Instr.mapUpdate 185 (.map (some kb)) (.agg #[.bool nd1.final, .string ⟨(edgeText s1.ids nd1.edges).toArray⟩]) (.pointer (some ⟨t, 0, none⟩))).run Tryz.prog Wl.drew = .ok () W2 := hrun2
        clear hrun2
        go_simp
        have HS2 := Lib.hid (hSL1.learn htG hg2 hmap2)
        have cm0 : W2.cell? ⟨wr.heap.size, 0, none⟩ = some (.bool nd1.final) := World.grownBy.cell hg2 cl0 (fun e => nk (Option.some.inj e))
        have cm1 : W2.cell? ⟨wr.heap.size, 1, none⟩ = some (.string ⟨(edgeText s1.ids nd1.edges).toArray⟩) := World.grownBy.cell hg2 cl1 (fun e => nk (Option.some.inj e))
        have cm2 : W2.cell? ⟨bb, 0, none⟩ = some (.map (some kb)) := World.grownBy.cell hg2 cl2 (fun e => nbk (Option.some.inj e))
        have cm3 : W2.cell? ⟨bb, 1, none⟩ = some (.map (some ib)) := World.grownBy.cell hg2 cl3 (fun e => nbk (Option.some.inj e))
        have cm4 : W2.cell? ⟨g, es.length * 2 + 1, none⟩ = some (.pointer (some ⟨t, 0, none⟩)) := World.grownBy.cell hg2 cl4 (fun e => ngk (Option.some.inj e))
        have hB2 : Below B w W2 := (hBB.trans (hSl.below B)).drew.grown hg2 (by have := (hs1h.out.nodes.ge n nd hGn1).1; have := lt_of_heap (hSL1.nodes.node n nd hGn1); omega) (fun k hk => by cases hk; exact hs1h.out.kb_ge)
        refine hK _ _ ⟨cm0, cm1, cm2, cm3, cm4⟩ ?_
        clear hK K hrun2' hmap2 hg2 cl0 cl1 cl2 cl3 cl4
        refine wpOrd_nil ?_
        go_wp2_with fail
        have tc : ∀ W, Same W2 W → (∀ p ∈ vals intV s1.ids, cellsAt W p.1) ∧ cellsAt W t := fun W hS => ⟨(HS2.out.same hS).idsCells, (HS2.out.same hS).cellsAt htG⟩
        refine wp_region_ord [(0, false), (1, false), (2, false), (3, false), (4, false), (5, false), (6, false), (7, false), (8, false), (9, false), (10, false), (11, false), (12, true), (13, true)]
          (fun w' => w'.cell? ⟨bb, 1, none⟩ = some (.map (some ib)) ∧ w'.cell? ⟨g, es.length * 2 + 1, none⟩ = some (.pointer (some ⟨t, 0, none⟩))) (by kernel_rfl) (by kernel_rfl) ?_ ?_
        · exact ⟨cm3, cm4⟩
        iterate 12 (
          refine wpOrd_quiet ?_ rfl rfl (fun w' hS => ?_) ?_
          rotate_left
          · obtain ⟨f0, f1⟩ := hS
            go_simp
            first | rfl | done
          simp only [put_lit, List.set_cons_succ, List.set_cons_zero])
        refine wpOrd_loud rfl rfl (by decide) (fun K hK => ?_)
        obtain ⟨ies, ic, hib, _⟩ := HS2.out.ids
        have hisz : ies.size = s1.ids.length := by rw [MapIs.len hib HS2.out.ids]; simp [vals]
        have hrunl : (Builtin.len_ #[186] 3 #[.map (some ib)]).run Tryz.prog W2.drew = .ok (.int .i64 s1.ids.length) W2.drew := by
          rw [← hisz]
          unfold Builtin.len_
          simp only [Sem.run_bind, List.getElem?_toArray, List.getElem?_cons_zero, run_underlying Tryz.underlying186, Result.andThen_ok]
          rw [getObj_run (w := W2.drew) hib]
          rfl
        clear hib hisz
        go_simp
        refine hK _ _ ⟨cm3, cm4⟩ ?_
        clear hK K hrunl
        refine wpOrd_loud rfl rfl (by decide) (fun K hK => ?_)
        have hS2 := HS2.out.same (Same.drew W2)
        obtain ⟨W3, hrun3, hmap3, hg3, hz3⟩ := MapIs.update node_law hS2.ids t (hS2.cellsAt htG) hS2.idsCells Tryz.underlying186 (intV s1.ids.length)
        have hrun3' : (Instr.mapUpdate 186 (.map (some ib)) (.pointer (some ⟨t, 0, none⟩)) (.int .i64 s1.ids.length)).run Tryz.prog W2.drew = .ok () W3 := hrun3
        clear hrun3
        go_simp
        have cn3 : W3.cell? ⟨bb, 1, none⟩ = some (.map (some ib)) := World.grownBy.cell hg3 cm3 (fun e => nbi (Option.some.inj e))
        have cn4 : W3.cell? ⟨g, es.length * 2 + 1, none⟩ = some (.pointer (some ⟨t, 0, none⟩)) := World.grownBy.cell hg3 cm4 (fun e => ngi (Option.some.inj e))
        have hS3 := hS2.count htG hg3 hmap3
        have hB3 : Below B w W3 := hB2.drew.grown hg3 (by have := hB2.size; have := (hs1h.out.nodes.ge n nd hGn1).1; have := lt_of_heap (hS2.nodes.node n nd hGn1); simp at this; simp; omega) (fun k hk => by cases hk; exact hs1h.out.ib_ge)
        refine hK _ _ ⟨cn3, cn4⟩ ?_
        clear hK K hrun3' hmap3 hg3 cm0 cm1 cm2 cm3 cm4
        refine wpOrd_nil ?_
        go_wp2_with fail
        refine bodyPost_end (results_none rfl _ _ _) rfl ?_
        refine ⟨rfl, ?_, hB3⟩
        rw [HP.out]
        exact hS3

theorem settle_any (B bb kb ib : Nat) : ∀ (ts : List Nat) (s : St) (n : Nat) (w : World), StIn B bb kb ib w s → Way s n ts → Small s → s.ids.length + ts.length < 1000000 →
    Calls Tryz.prog 83 #[ptrV bb, ptrV n] w fun e w' => e = .returned (.tuple #[]) ∧ StIn B bb kb ib w' (settleP ts s n) ∧ Below B w w'
  | [], s, n, w, hs, hw, _, _ => settle_none B bb kb ib s n w hs hw
  | t :: ts, s, n, w, hs, hw, hsm, hl => settle_some B bb kb ib t ts (fun s w => settle_any B bb kb ib ts s t w) s n w hs hw hsm hl
end Go.Proofs.Ts
/- The builder's shapes tell nodes apart: a number's bytes are a prefix code. -/
set_option linter.unusedVariables false
set_option linter.unusedSimpArgs false
set_option linter.unusedSectionVars false
namespace Go.Proofs.Ts
open Go Go.RowKit

def vbytes (n : Nat) : List UInt8 := (vint n).map UInt8.ofNat
theorem vbytes_small {n : Nat} (h : n < 128) : vbytes n = [UInt8.ofNat n] := by simp [vbytes, vint_small h]
theorem vbytes_big {n : Nat} (h : 128 ≤ n) : vbytes n = UInt8.ofNat (n % 128 + 128) :: vbytes (n / 128) := by simp [vbytes, vint_big h]
theorem ofNat_lt {a : Nat} (h : a < 256) : (UInt8.ofNat a).toNat = a := by simp [UInt8.toNat_ofNat']; omega
theorem vbytes_inj : ∀ (a b : Nat) (x y : List UInt8), vbytes a ++ x = vbytes b ++ y → a = b ∧ x = y := by
  intro a
  induction a using Nat.strongRecOn with
  | _ a ih =>
    intro b x y h
    by_cases ha : a < 128
    · by_cases hb : b < 128
      · rw [vbytes_small ha, vbytes_small hb] at h
        simp only [List.cons_append, List.nil_append, List.cons.injEq] at h
        have := congrArg UInt8.toNat h.1
        rw [ofNat_lt (by omega), ofNat_lt (by omega)] at this
        exact ⟨this, h.2⟩
      · rw [vbytes_small ha, vbytes_big (show 128 ≤ b by omega)] at h
        simp only [List.cons_append, List.nil_append, List.cons.injEq] at h
        have := congrArg UInt8.toNat h.1
        rw [ofNat_lt (by omega), ofNat_lt (by omega)] at this
        omega
    · by_cases hb : b < 128
      · rw [vbytes_big (show 128 ≤ a by omega), vbytes_small hb] at h
        simp only [List.cons_append, List.nil_append, List.cons.injEq] at h
        have := congrArg UInt8.toNat h.1
        rw [ofNat_lt (by omega), ofNat_lt (by omega)] at this
        omega
      · rw [vbytes_big (show 128 ≤ a by omega), vbytes_big (show 128 ≤ b by omega)] at h
        simp only [List.cons_append, List.nil_append, List.cons.injEq] at h
        have h1 := congrArg UInt8.toNat h.1
        rw [ofNat_lt (by omega), ofNat_lt (by omega)] at h1
        obtain ⟨h2, h3⟩ := ih (a / 128) (by omega) (b / 128) x y h.2
        exact ⟨by omega, h3⟩
/-- Edges whose targets have numbers are told by their text. -/
theorem edgeText_inj {ids : List (Nat × Nat)} (hinj : ∀ a b, (get ids a).isSome → (get ids b).isSome → idOf ids a = idOf ids b → a = b) :
    ∀ (es fs : List (UInt8 × Nat)), (∀ e ∈ es, (get ids e.2).isSome) → (∀ e ∈ fs, (get ids e.2).isSome) → edgeText ids es = edgeText ids fs → es = fs
  | [], [], _, _, _ => rfl
  | [], f :: fs, _, _, h => by simp [edgeText] at h
  | e :: es, [], _, _, h => by simp [edgeText] at h
  | e :: es, f :: fs, he, hf, h => by
    have h' : e.1 :: (vbytes (idOf ids e.2) ++ edgeText ids es) = f.1 :: (vbytes (idOf ids f.2) ++ edgeText ids fs) := by simpa [edgeText, vbytes] using h
    simp only [List.cons.injEq] at h'
    obtain ⟨h1, h2⟩ := vbytes_inj _ _ _ _ h'.2
    have h3 := hinj _ _ (he e List.mem_cons_self) (hf f List.mem_cons_self) h1
    have h4 := edgeText_inj hinj es fs (fun x hx => he x (List.mem_cons_of_mem _ hx)) (fun x hx => hf x (List.mem_cons_of_mem _ hx)) h2
    rw [h4]
    congr 1
    exact Prod.ext h'.1 h3
end Go.Proofs.Ts
