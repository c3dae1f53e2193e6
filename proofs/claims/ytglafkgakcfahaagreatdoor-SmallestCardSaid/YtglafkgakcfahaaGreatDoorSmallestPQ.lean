/- Lemmas towards the statement Smallest of termsearch: walks of the program's functions and plain laws on lists (TsLangB, TsMachP, TsMachine, TsGoes, TsPlan, TsFind). Conditions: those that each theorem names. -/
import Derived.Test.YtglafkgakcfahaaGreatDoorSmallestPP
import Derived.Test.YtglafkgakcfahaaGreatDoorSmallestPK
import Derived.Test.YtglafkgakcfahaaGreatDoorSmallestPE
import Derived.Test.YtglafkgakcfahaaGreatDoorSmallestPL
import Derived.Test.YtglafkgakcfahaaGreatDoorSmallestPM
import Derived.Test.YtglafkgakcfahaaGreatDoorSmallestPF
import Derived.Test.YtglafkgakcfahaaGreatDoorLocks
import Derived.Conc.MuLone
set_option linter.unusedVariables false
set_option linter.unusedSimpArgs false
set_option linter.unusedSectionVars false
namespace Go.Proofs.Ts
open Go
/-! ### What a part adds to a machine. -/
structure Adds (e : Ast) (M N : PM) (p : Part) : Prop where
 first : ∀ k, k < 192 → (p.first.mem k = true ↔ e.fst M.n k)
 last : ∀ k, k < 192 → (p.last.mem k = true ↔ e.lst M.n k)
 none : p.none = e.nul
 fol : ∀ k k', k' < 192 → (N.fol k k' ↔ M.fol k k' ∨ e.lnk M.n k k')
 takes : ∀ k c, k < 192 → (N.takes k c ↔ M.takes k c ∨ e.tak M.n k c)
theorem PM.fol_put {M : PM} {k : Nat} {s : PSet} (hk : k < M.follow.length) (j k' : Nat) : (M.putFollow k s).fol j k' ↔ if j = k then s.mem k' = true else M.fol j k' := by
 unfold PM.fol
 show ((M.follow.set k s).getD j PSet.zero).mem k' = true ↔ _
 rw [List.getD_eq_getElem?_getD, List.getElem?_set, List.getD_eq_getElem?_getD]
 by_cases e : j = k
 ·subst e; simp [hk]
 ·simp [e, Ne.symm e]
theorem PM.fol_link (t : PSet) (k k' : Nat) : ∀ (l : List Nat) (M : PM), (∀ x ∈ l, x < M.follow.length) → ((M.link l t).fol k k' ↔ M.fol k k' ∨ (k ∈ l ∧ t.mem k' = true))
 | [], M, _ => by simp [PM.link]
 | x :: l, M, h => by
  have hx := h x List.mem_cons_self
  have ih := PM.fol_link t k k' l (M.linkOne t x) fun y hy => by
   show y < (M.follow.set x _).length
   rw [List.length_set]
   exact h y (List.mem_cons_of_mem _ hy)
  show ((M.linkOne t x).link l t).fol k k' ↔ _
  rw [ih]
  unfold PM.linkOne
  rw [PM.fol_put hx]
  by_cases e : k = x
  ·subst e
   rw [if_pos rfl, PSet.mem_or, Bool.or_eq_true]
   simp only [List.mem_cons, true_or, true_and]
   constructor
   ·rintro ((h1 | h1) | h1)
    ·exact .inl h1
    ·exact .inr h1
    ·exact .inr h1.2
   ·rintro (h1 | h1)
    ·exact .inl (.inl h1)
    ·exact .inl (.inr h1)
  ·rw [if_neg e]
   simp [e]
theorem PM.takes_link (t : PSet) (k : Nat) (c : UInt8) : ∀ (l : List Nat) (M : PM), ((M.link l t).takes k c ↔ M.takes k c)
 | [], M => Iff.rfl
 | x :: l, M => PM.takes_link t k c l (M.linkOne t x)
theorem PM.takes_put {M : PM} (hM : M.ok) (hn : M.n < 192) (s : BSet) {k : Nat} (hk : k < 192) (c : UInt8) : (M.putPlace s).takes k c ↔ M.takes k c ∨ (k = M.n ∧ s.has c.toNat = true) := by
 unfold PM.takes PM.atc
 show (((M.at'.zipIdx).map fun q => if s.has q.2 then q.1.on M.n else q.1).getD c.toNat PSet.zero).mem k = true ↔ _
 have hc : c.toNat < M.at'.length := by rw [hM.la]; exact c.toNat_lt
 rw [List.getD_eq_getElem?_getD, List.getElem?_map, List.getElem?_zipIdx, List.getD_eq_getElem?_getD, List.getElem?_eq_getElem hc]
 simp only [Option.map_some, Option.getD_some, Nat.zero_add]
 cases s.has c.toNat with
 | true =>
  simp only [if_true]
  rw [PSet.mem_on _ _ _ hn hk, Bool.or_eq_true, decide_eq_true_iff]
  simp [or_comm]
 | false => simp
theorem last_lt {M N : PM} {p : Part} {c : Nat} (h : PartOk M N p c) (hn : M.n + c ≤ 128) (L : PM) (hL : L.ok) : ∀ x ∈ p.last.elems, x < L.follow.length := fun x hx => by
 rw [hL.lf]
 have := h.ul x hx
 rw [h.n] at this
 omega
theorem mem_last {p : Part} {P : Nat → Prop} (h : ∀ k, k < 192 → (p.last.mem k = true ↔ P k)) (hin : ∀ k, P k → k < 192) (k : Nat) : k ∈ p.last.elems ↔ P k := by
 rw [PSet.mem_elems]
 constructor
 ·exact fun hk => (h k hk.1).1 hk.2
 ·exact fun hk => ⟨hin k hk, (h k (hin k hk)).2 hk⟩
theorem part_adds (e : Ast) : ∀ (M : PM), M.ok → M.n + e.count ≤ 128 → Adds e M (PM.part e M).1 (PM.part e M).2 := by
 have z : ∀ k, PSet.zero.mem k = true ↔ False := fun k => by rw [PSet.mem_zero]; simp
 induction e with
 | empty => exact fun M h _ => ⟨fun k _ => z k, fun k _ => z k, rfl, fun k k' _ => by simp [PM.part, Ast.lnk], fun k c _ => by simp [PM.part, Ast.tak]⟩
 | huge => exact fun M h _ => ⟨fun k _ => z k, fun k _ => z k, rfl, fun k k' _ => by simp [PM.part, Ast.lnk], fun k c _ => by simp [PM.part, Ast.tak]⟩
 | one s =>
  intro M hM hn
  have hn' : M.n + 1 ≤ 128 := hn
  have hon : ∀ k, k < 192 → ((PSet.zero.on M.n).mem k = true ↔ k = M.n) := fun k hk => by
   rw [PSet.mem_on _ _ _ (by omega) hk, PSet.mem_zero, Bool.or_false, decide_eq_true_iff]
  exact ⟨hon, hon, rfl, fun k k' _ => by simp [PM.part, Ast.lnk]; rfl, fun k c hk => PM.takes_put hM (by omega) s hk c⟩
 | or a b iha ihb =>
  intro M hM hn
  have hn' : M.n + (a.count + b.count) ≤ 128 := hn
  have ka := part_ok a M hM (by omega)
  have ha := iha M hM (by omega)
  have hb := ihb _ ka.mach (by rw [ka.n]; omega)
  rw [show (PM.part (Ast.or a b) M) = ((PM.part b (PM.part a M).1).1, (PM.part a M).2.or (PM.part b (PM.part a M).1).2) from rfl]
  obtain ⟨N, p, hNp⟩ : ∃ N p, PM.part a M = (N, p) := ⟨_, _, rfl⟩
  rw [hNp] at ka ha hb ⊢
  dsimp only at ka ha hb ⊢
  obtain ⟨L, q, hLq⟩ : ∃ L q, PM.part b N = (L, q) := ⟨_, _, rfl⟩
  rw [hLq] at hb ⊢
  dsimp only at hb ⊢
  refine ⟨fun k hk => ?_, fun k hk => ?_, ?_, fun k k' hk => ?_, fun k c hk => ?_⟩
  ·show (p.first.or q.first).mem k = true ↔ _
   rw [PSet.mem_or, Bool.or_eq_true, ha.first k hk, show q.first.mem k = true ↔ b.fst (M.n + a.count) k by have := hb.first k hk; rwa [ka.n] at this]
   rfl
  ·show (p.last.or q.last).mem k = true ↔ _
   rw [PSet.mem_or, Bool.or_eq_true, ha.last k hk, show q.last.mem k = true ↔ b.lst (M.n + a.count) k by have := hb.last k hk; rwa [ka.n] at this]
   rfl
  ·show (p.none || q.none) = (a.nul || b.nul)
   rw [ha.none, hb.none]
  ·rw [hb.fol k k' hk, ha.fol k k' hk, ka.n]
   exact or_assoc
  ·rw [hb.takes k c hk, ha.takes k c hk, ka.n]
   exact or_assoc
 | seq a b iha ihb =>
  intro M hM hn
  have hn' : M.n + (a.count + b.count) ≤ 128 := hn
  have ka := part_ok a M hM (by omega)
  have kb := part_ok b _ ka.mach (by rw [ka.n]; omega)
  have ha := iha M hM (by omega)
  have hb := ihb _ ka.mach (by rw [ka.n]; omega)
  have hlt := last_lt ka (by omega) _ kb.mach
  rw [show (PM.part (Ast.seq a b) M) = ((PM.part b (PM.part a M).1).1.link (PM.part a M).2.last.elems (PM.part b (PM.part a M).1).2.first, (PM.part a M).2.seq (PM.part b (PM.part a M).1).2) from rfl]
  obtain ⟨N, p, hNp⟩ : ∃ N p, PM.part a M = (N, p) := ⟨_, _, rfl⟩
  rw [hNp] at ka kb ha hb hlt ⊢
  dsimp only at ka kb ha hb hlt ⊢
  obtain ⟨L, q, hLq⟩ : ∃ L q, PM.part b N = (L, q) := ⟨_, _, rfl⟩
  rw [hLq] at kb hb hlt ⊢
  dsimp only at kb hb hlt ⊢
  have bf : ∀ k, k < 192 → (q.first.mem k = true ↔ b.fst (M.n + a.count) k) := fun k hk => by have := hb.first k hk; rwa [ka.n] at this
  have bl : ∀ k, k < 192 → (q.last.mem k = true ↔ b.lst (M.n + a.count) k) := fun k hk => by have := hb.last k hk; rwa [ka.n] at this
  have hml := mem_last ha.last fun k h => by have := a.lst_in h; omega
  refine ⟨fun k hk => ?_, fun k hk => ?_, ?_, fun k k' hk => ?_, fun k c hk => ?_⟩
  ·show (if p.none then p.first.or q.first else p.first).mem k = true ↔ a.fst M.n k ∨ (a.nul = true ∧ b.fst (M.n + a.count) k)
   rw [ha.none]
   cases a.nul with
   | true => simp only [if_true, PSet.mem_or, Bool.or_eq_true, ha.first k hk, bf k hk, true_and]
   | false => simpa using ha.first k hk
  ·show (if q.none then q.last.or p.last else q.last).mem k = true ↔ b.lst (M.n + a.count) k ∨ (b.nul = true ∧ a.lst M.n k)
   rw [hb.none]
   cases b.nul with
   | true => simp only [if_true, PSet.mem_or, Bool.or_eq_true, ha.last k hk, bl k hk, true_and]
   | false => simpa using bl k hk
  ·show (p.none && q.none) = (a.nul && b.nul)
   rw [ha.none, hb.none]
  ·rw [PM.fol_link _ _ _ _ _ hlt, hb.fol k k' hk, ha.fol k k' hk, ka.n, hml, bf k' hk]
   show _ ↔ M.fol k k' ∨ a.lnk M.n k k' ∨ b.lnk (M.n + a.count) k k' ∨ (a.lst M.n k ∧ b.fst (M.n + a.count) k')
   simp only [or_assoc]
  ·rw [PM.takes_link, hb.takes k c hk, ha.takes k c hk, ka.n]
   exact or_assoc
 | many a sm ih =>
  intro M hM hn
  have ka := part_ok a M hM hn
  have ha := ih M hM hn
  have hlt := last_lt ka hn _ ka.mach
  have hn' : M.n + a.count ≤ 128 := hn
  have hml := mem_last ha.last fun k h => by have := a.lst_in h; omega
  refine ⟨ha.first, ha.last, ?_, fun k k' hk => ?_, fun k c hk => ?_⟩
  ·show ((PM.part a M).2.none || !sm) = (a.nul || !sm)
   rw [ha.none]
  ·show ((PM.part a M).1.link _ _).fol k k' ↔ _
   rw [PM.fol_link _ _ _ _ _ hlt, ha.fol k k' hk, hml, ha.first k' hk]
   exact or_assoc
  ·show ((PM.part a M).1.link _ _).takes k c ↔ _
   rw [PM.takes_link]
   exact ha.takes k c hk
 | maybe a ih =>
  intro M hM hn
  have ha := ih M hM hn
  exact ⟨ha.first, ha.last, rfl, ha.fol, ha.takes⟩
/-! ### The whole machine. -/
theorem zero_fol (k k' : Nat) : ¬ PM.zero.fol k k' := by
 unfold PM.fol
 have : PM.zero.follow.getD k PSet.zero = PSet.zero := by
  show (List.replicate 129 PSet.zero).getD k PSet.zero = PSet.zero
  rw [List.getD_eq_getElem?_getD, List.getElem?_replicate]
  split <;> rfl
 rw [this, PSet.mem_zero]
 simp
theorem zero_takes (k : Nat) (c : UInt8) : ¬ PM.zero.takes k c := by
 unfold PM.takes PM.atc
 have : PM.zero.at'.getD c.toNat PSet.zero = PSet.zero := by
  show (List.replicate 256 PSet.zero).getD c.toNat PSet.zero = PSet.zero
  rw [List.getD_eq_getElem?_getD, List.getElem?_replicate]
  split <;> rfl
 rw [this, PSet.mem_zero]
 simp
theorem begin_elems (k : Nat) : k ∈ beginSet.elems ↔ k = 128 := by
 rw [PSet.mem_elems]
 unfold beginSet
 constructor
 ·rintro ⟨h1, h2⟩
  rw [PSet.mem_on _ _ _ (by decide) h1, PSet.mem_zero, Bool.or_false, decide_eq_true_iff] at h2
  exact h2
 ·rintro rfl
  refine ⟨by decide, ?_⟩
  rw [PSet.mem_on _ _ _ (by decide) (by decide)]
  simp
/-- The machine of a pattern reads what the pattern describes. -/
theorem compile_reads (e : Ast) (hn : e.count ≤ 128) (t : List UInt8) : (PM.compile e).reads beginSet t = true ↔ e.lang t := by
 have hok := compile_ok e hn
 have ka := part_ok e PM.zero PM.ok_zero (by show 0 + _ ≤ 128; omega)
 have ha := part_adds e PM.zero PM.ok_zero (by show 0 + _ ≤ 128; omega)
 rw [PM.reads_run hok t beginSet beginSet_ok]
 have hz : PM.zero.n = 0 := rfl
 have hlt : (128 : Nat) < (PM.part e PM.zero).1.follow.length := by rw [ka.mach.lf]; decide
 have hfol : ∀ k k', k' < 192 → ((PM.compile e).fol k k' ↔ if k = 128 then e.fst 0 k' else e.lnk 0 k k') := fun k k' hk => by
  show ((PM.part e .zero).1.putFollow 128 (PM.part e .zero).2.first).fol k k' ↔ _
  rw [PM.fol_put hlt]
  by_cases h : k = 128
  ·rw [if_pos h, if_pos h]; exact ha.first k' hk
  ·rw [if_neg h, if_neg h, ha.fol k k' hk]
   simp [zero_fol, hz]
 have htak : ∀ k c, k < 192 → ((PM.compile e).takes k c ↔ e.tak 0 k c) := fun k c hk => by
  show (PM.part e .zero).1.takes k c ↔ _
  rw [ha.takes k c hk]
  simp [zero_takes, hz]
 have hlast : ∀ k, k < 192 → ((PM.compile e).last.mem k = true ↔ e.lst 0 k ∨ (k = 128 ∧ e.nul = true)) := fun k hk => by
  show (if (PM.part e .zero).2.none then (PM.part e .zero).2.last.on 128 else (PM.part e .zero).2.last).mem k = true ↔ _
  rw [ha.none]
  cases e.nul with
  | true =>
   simp only [if_true]
   rw [PSet.mem_on _ _ _ (by decide) hk, Bool.or_eq_true, decide_eq_true_iff, ha.last k hk, hz]
   simp [or_comm]
  | false =>
   simp only [Bool.false_eq_true, if_false, and_false, or_false]
   exact ha.last k hk
 have hW : WithinM (PM.compile e) e 0 (fun _ => False) True := ⟨fun k k' h1 h2 h3 => by
  rw [hfol k k' h3, if_neg (by omega)]
  simp, fun k h1 h2 => by
  rw [hlast k (by omega)]
  have : ¬ k = 128 := by omega
  simp [this], fun k c h1 h2 => htak k c (by omega)⟩
 have hg := glushkov (PM.compile e) e 0 (fun _ => False) True (by omega) hW
 have htail : ∀ v, (PM.compile e).tail (fun _ => False) True v ↔ v = [] := fun v => by
  constructor
  ·rintro (⟨h, _⟩ | ⟨_, _, _, _, _, h, _⟩)
   ·exact h
   ·exact h.elim
  ·exact fun h => .inl ⟨h, trivial⟩
 have h1 : (∃ k ∈ beginSet.elems, (PM.compile e).run t k) ↔ (PM.compile e).run t 128 := by
  constructor
  ·rintro ⟨k, hk, hr⟩
   rw [(begin_elems k).1 hk] at hr
   exact hr
  ·exact fun h => ⟨128, (begin_elems 128).2 rfl, h⟩
 rw [h1]
 cases t with
 | nil =>
  show ((PM.compile e).last.mem 128 = true) ↔ _
  rw [hlast 128 (by decide), ← e.nul_iff]
  constructor
  ·rintro (h | h)
   ·have := e.lst_in h; omega
   ·exact h.2
  ·exact fun h => .inr ⟨rfl, h⟩
 | cons c t =>
  have h2 : (PM.compile e).run (c :: t) 128 ↔ (PM.compile e).via (e.fst 0) (c :: t) := by
   constructor
   ·rintro ⟨k', hk, hf, ht, hr⟩
    exact ⟨c, t, k', rfl, hk, by have := (hfol 128 k' hk).1 hf; rwa [if_pos rfl] at this, ht, hr⟩
   ·rintro ⟨c', t', k', he, hk, hf, ht, hr⟩
    cases he
    exact ⟨k', hk, (hfol 128 k' hk).2 (by rw [if_pos rfl]; exact hf), ht, hr⟩
  rw [h2, hg]
  constructor
  ·rintro ⟨u, v, _, h3, h4, h5⟩
   have := (htail v).1 h5
   subst this
   rw [h3]
   simpa using h4
  ·exact fun h => ⟨c :: t, [], by simp, by simp, h, (htail []).2 rfl⟩
/-! ### The least number of states, by the language. -/
/-- So many languages but the empty one are left behind beginnings. -/
def LeastOf (L : List UInt8 → Prop) (n : Nat) : Prop := ∃ us : List (List UInt8), us.length = n ∧ (∀ u ∈ us, ∃ t, L (u ++ t)) ∧ us.Pairwise (fun u v => ¬ ∀ t, L (u ++ t) ↔ L (v ++ t)) ∧ ∀ u, (∃ t, L (u ++ t)) → ∃ v ∈ us, ∀ t, L (u ++ t) ↔ L (v ++ t)
theorem pairs_len {α : Type} (R : α → α → Prop) (hs : ∀ a b, R a b → R b a) (ht : ∀ a b c, R a b → R b c → R a c) : ∀ (us vs : List α), us.Pairwise (fun a b => ¬ R a b) → (∀ u ∈ us, ∃ v ∈ vs, R u v) → us.length ≤ vs.length
 | [], vs, _, _ => Nat.zero_le _
 | u :: us, vs, hp, h => by
  obtain ⟨v, hv, huv⟩ := h u List.mem_cons_self
  obtain ⟨l1, l2, rfl⟩ := List.append_of_mem hv
  obtain ⟨hp1, hp2⟩ := List.pairwise_cons.1 hp
  have ih := pairs_len R hs ht us (l1 ++ l2) hp2 fun x hx => by
   obtain ⟨y, hy, hxy⟩ := h x (List.mem_cons_of_mem _ hx)
   refine ⟨y, ?_, hxy⟩
   rcases List.mem_append.1 hy with hy | hy
   ·exact List.mem_append_left _ hy
   ·rcases List.mem_cons.1 hy with rfl | hy
    ·exact absurd (ht _ _ _ huv (hs _ _ hxy)) (hp1 x hx)
    ·exact List.mem_append_right _ hy
  simp only [List.length_append, List.length_cons] at ih ⊢
  omega
theorem LeastOf.le {L : List UInt8 → Prop} {n m : Nat} (h : LeastOf L n) (k : LeastOf L m) : n ≤ m := by
 obtain ⟨us, rfl, h1, h2, _⟩ := h
 obtain ⟨vs, rfl, _, _, k3⟩ := k
 exact pairs_len (fun u v => ∀ t, L (u ++ t) ↔ L (v ++ t)) (fun _ _ h t => (h t).symm) (fun _ _ _ h k t => (h t).trans (k t)) us vs h2 fun u hu => k3 u (h1 u hu)
theorem LeastOf.unique {L : List UInt8 → Prop} {n m : Nat} (h : LeastOf L n) (k : LeastOf L m) : n = m := Nat.le_antisymm (h.le k) (k.le h)
/-- The set come to behind a beginning. -/
def PM.goTo (M : PM) : PSet → List UInt8 → PSet
 | s, [] => s
 | s, c :: t => M.goTo (M.step s c.toNat) t
theorem PM.reads_go {M : PM} : ∀ (u : List UInt8) (s : PSet), (∃ t, M.reads s (u ++ t) = true) → Met2 M s → Met2 M (M.goTo s u) ∧ ∀ t, M.reads s (u ++ t) = M.reads (M.goTo s u) t
 | [], s, _, hm => ⟨hm, fun t => rfl⟩
 | c :: u, s, ⟨t, ht⟩, hm => by
  rw [List.cons_append, reads_step] at ht
  split at ht
  ·cases ht
  ·rename_i hz
   obtain ⟨h1, h2⟩ := PM.reads_go u (M.step s c.toNat) ⟨t, ht⟩ (.step s c.toNat hm c.toNat_lt hz)
   refine ⟨h1, fun x => ?_⟩
   rw [List.cons_append, reads_step, if_neg hz]
   exact h2 x
theorem Met2.word {M : PM} {s : PSet} (h : Met2 M s) (hl : M.live s) : ∃ u, (∀ t, M.reads beginSet (u ++ t) = M.reads s t) := by
 induction h with
 | start => exact ⟨[], fun t => rfl⟩
 | step s c hm hc hz ih =>
  have e : (UInt8.ofNat c).toNat = c := by simp; omega
  have hst : ∀ t, M.reads s (UInt8.ofNat c :: t) = M.reads (M.step s c) t := fun t => by rw [reads_step, e, if_neg hz]
  obtain ⟨t, ht⟩ := hl
  obtain ⟨u, hu⟩ := ih ⟨UInt8.ofNat c :: t, by rw [hst]; exact ht⟩
  refine ⟨u ++ [UInt8.ofNat c], fun x => ?_⟩
  rw [List.append_assoc, hu]
  exact hst x
theorem IsLeast.lang {M : PM} {n : Nat} (h : IsLeast M n) : LeastOf (fun t => M.reads beginSet t = true) n := by
 obtain ⟨reps, rfl, h1, h2, h3⟩ := h
 have hw : ∀ l : List PSet, (∀ s ∈ l, Met2 M s ∧ M.live s) → ∃ us : List (List UInt8), us.length = l.length ∧ ∀ (i : Nat) u s, us[i]? = some u → l[i]? = some s → ∀ t, M.reads beginSet (u ++ t) = M.reads s t := fun l => by
  induction l with
  | nil => exact fun _ => ⟨[], rfl, fun i u s h => by simp at h⟩
  | cons a l ih =>
   intro h
   obtain ⟨us, e, hu⟩ := ih fun s hs => h s (List.mem_cons_of_mem _ hs)
   obtain ⟨u, hu'⟩ := (h a List.mem_cons_self).1.word (h a List.mem_cons_self).2
   refine ⟨u :: us, by simp [e], fun i v s hv hs => ?_⟩
   cases i with
   | zero => simp at hv hs; subst hv hs; exact hu'
   | succ i => exact hu i v s (by simpa using hv) (by simpa using hs)
 obtain ⟨us, hl, hu⟩ := hw reps h1
 have hget : ∀ u ∈ us, ∃ s ∈ reps, ∀ t, M.reads beginSet (u ++ t) = M.reads s t := fun u hum => by
  obtain ⟨i, hi⟩ := List.mem_iff_getElem?.1 hum
  have hil := (List.getElem?_eq_some_iff.1 hi).1
  have hs : reps[i]? = some reps[i] := List.getElem?_eq_getElem (by omega)
  exact ⟨_, List.mem_of_getElem? hs, hu i u _ hi hs⟩
 refine ⟨us, hl, fun u hum => ?_, ?_, fun u hlv => ?_⟩
 ·obtain ⟨s, hs, he⟩ := hget u hum
  obtain ⟨t, ht⟩ := (h1 s hs).2
  exact ⟨t, (he t).trans ht⟩
 ·rw [List.pairwise_iff_getElem] at h2 ⊢
  intro i j hi hj hij hall
  refine h2 i j (by omega) (by omega) hij (funext fun t => ?_)
  have e1 := hu i us[i] reps[i] (List.getElem?_eq_getElem hi) (List.getElem?_eq_getElem (by omega)) t
  have e2 := hu j us[j] reps[j] (List.getElem?_eq_getElem hj) (List.getElem?_eq_getElem (by omega)) t
  rw [← e1, ← e2, Bool.eq_iff_iff]
  exact hall t
 ·obtain ⟨hm, he⟩ := PM.reads_go u beginSet hlv .start
  have hlive : M.live (M.goTo beginSet u) := by
   obtain ⟨t, ht⟩ := hlv
   exact ⟨t, by rw [← he]; exact ht⟩
  obtain ⟨r, hr, hrr⟩ := h3 _ hm hlive
  obtain ⟨i, hi⟩ := List.mem_iff_getElem?.1 hr
  have hil := (List.getElem?_eq_some_iff.1 hi).1
  have hui : us[i]? = some us[i] := List.getElem?_eq_getElem (by omega)
  refine ⟨_, List.mem_of_getElem? hui, fun t => ?_⟩
  show (M.reads beginSet (u ++ t) = true) ↔ (M.reads beginSet (us[i] ++ t) = true)
  rw [he, hu i _ r hui hi, hrr]
theorem IsLeast.ofLang {M : PM} {n : Nat} {L : List UInt8 → Prop} (h : IsLeast M n) (hL : ∀ t, M.reads beginSet t = true ↔ L t) : LeastOf L n := by
 have e : (fun t => M.reads beginSet t = true) = L := funext fun t => propext (hL t)
 rw [← e]
 exact h.lang
/-- Of two patterns that describe the same the least machines have as many states. -/
theorem least_alike {d e : Ast} {n m : Nat} (hd : d.count ≤ 128) (he : e.count ≤ 128) (h : ∀ t, d.lang t ↔ e.lang t) (h1 : IsLeast (PM.compile d) n) (h2 : IsLeast (PM.compile e) m) : n = m :=
 (h1.ofLang (compile_reads d hd)).unique (h2.ofLang fun t => (compile_reads e he t).trans (h t).symm)
end Go.Proofs.Ts
namespace Go.Proofs.Ts
open Go
/-- More sets than most can be met. -/
def PM.wide (M : PM) (most : Nat) : Prop := ∃ l : List PSet, l.Nodup ∧ (∀ s ∈ l, Met2 M s) ∧ most < l.length
/-- At most so many sets can be met. -/
def PM.slim (M : PM) (most : Nat) : Prop := ∃ l : List PSet, (∀ s, Met2 M s → s ∈ l) ∧ l.length ≤ most
theorem PM.slim_wide {M : PM} {most : Nat} (h : M.slim most) (k : M.wide most) : False := by
 obtain ⟨l, h1, h2⟩ := h
 obtain ⟨l', k1, k2, k3⟩ := k
 have := nodup_le l' l k1 fun s hs => h1 s (k2 s hs)
 omega
/-- What becomes of what was parsed. -/
inductive Mach where
 | fault (i : Nat)
 | big
 | ok (x : Ast) (c : Nat)
/-- How it may end. -/
def MachOf (P : Parsed) (most : Nat) : Mach → Prop
 | .fault i => P = .fault i
 | .big => P = .big ∨ ∃ x, P = .ok x ∧ (PM.compile x).wide most
 | .ok x c => P = .ok x ∧ (PM.compile x).slim most ∧ IsLeast (PM.compile x) c
def Mach.num : Mach → Int
 | .ok _ c => c
 | _ => 0
def Mach.err : Mach → Int
 | .fault _ => 6
 | .big => 9
 | .ok _ _ => 0
def Mach.place : Mach → Int
 | .fault i => i
 | _ => -1
theorem Mach.err_ok {r : Mach} (h : r.err = 0) : ∃ x c, r = .ok x c := by
 cases r with
 | fault i => cases h
 | big => cases h
 | ok x c => exact ⟨x, c, rfl⟩
end Go.Proofs.Ts
namespace Go.Proofs.Ts
open Go Go.RowKit
/-- The value of an error. -/
def MachErr (w w' : World) (ev : Value) : Mach → Prop
 | .fault i => ∃ b, w.heap.size ≤ b ∧ ev = .iface 103 (ptrV b) ∧ w'.heap[b]? = some (.cells #[.int .i64 6, .int .i64 i] 108 (0, 0))
 | .big => ev = .iface 33 (.int .i64 9)
 | .ok _ _ => ev = .nilIface
def MachEnd (w : World) (P : Parsed) (most : Nat) (e : Ending) (w' : World) : Prop :=
 Below w.heap.size w w' ∧ ∃ r mv n ev, MachOf P most r ∧ e = .returned (.tuple #[mv, .int .i64 n, ev]) ∧ MachErr w w' ev r ∧
  ((∃ x c, r = .ok x c ∧ n = (c : Int) ∧ ∃ mb, w.heap.size ≤ mb ∧ mv = ptrV mb ∧ MachIs w' mb (PM.compile x)) ∨ ((∀ x c, r ≠ .ok x c) ∧ n = 0 ∧ mv = .pointer none))
set_option maxRecDepth 100000 in
set_option maxHeartbeats 4000000 in
theorem machine_rx (a b : ByteArray) (n : Int) (most : Nat) (w : World) (ha : a.size ≤ 1000000) (hT : BitTab w) (h1 : 1 ≤ most) (h4 : most ≤ 400) :
  Calls Tryz.prog 48 #[.agg #[.int .i64 5, .string a, .string b, .int .i64 n], .int .i64 most] w (MachEnd w (parseP a) most) := by
 obtain ⟨P, hP⟩ : ∃ P, P = parseP a := ⟨_, rfl⟩
 have HP := Lib.hid hP
 have HT := Lib.hid hT
 rw [← hP]
 clear hP hT
 go_enter Tryz.func48, Tryz.ntmps48
 go_wp2_with fail
 obtain ⟨W, hW⟩ : ∃ W, W = w.alloc (.cells #[.int .i64 5, .string a, .string b, .int .i64 n] 37) := ⟨_, rfl⟩
 have hbW : Below w.heap.size w W := by rw [hW]; exact (Below.refl _ w).alloc (Nat.le_refl _) _
 rw [← hW]
 have HW := Lib.hid hbW
 clear hW hbW
 refine (parse_any a W ha).mono ?_
 rw [← HP.out]
 rintro e w2 ⟨hb2, he2⟩
 have H2 := Lib.hid (HW.out.trans (hb2.mono HW.out.size))
 clear hb2
 cases P with
 | fault i =>
  obtain ⟨b2, hbl, rfl, hbb⟩ := he2
  have HBB := Lib.hid (And.intro (Nat.le_trans HW.out.size hbl) hbb)
  clear hbl hbb
  unfold ptrV
  go_wp2_with fail
  go_ret3
  exact ⟨H2.out, .fault i, _, _, _, rfl, rfl, ⟨b2, HBB.out.1, rfl, HBB.out.2⟩, .inr ⟨fun _ _ h => (by cases h), rfl, rfl⟩⟩
 | big =>
  have he2' : e = _ := he2
  subst he2'
  go_wp2_with fail
  go_ret3
  exact ⟨H2.out, .big, _, _, _, .inl rfl, rfl, rfl, .inr ⟨fun _ _ h => (by cases h), rfl, rfl⟩⟩
 | ok x =>
  have he2' : e = _ := he2
  subst he2'
  have hxo := parseP_okS HP.out.symm
  have hxc := parseP_count HP.out.symm
  have HX := Lib.hid (And.intro hxo hxc)
  clear hxo hxc
  obtain ⟨xv, hxv⟩ : ∃ xv, xv = x.val := ⟨_, rfl⟩
  rw [← hxv]
  have HXV := Lib.hid hxv
  clear hxv
  go_wp2_with fail
  rw [HXV.out]
  refine (compileP_any x HX.out.1 HX.out.2 w2 (HT.out.below H2.out)).mono ?_
  rintro e w3 ⟨rfl, hm3, hb3⟩
  have H3 := Lib.hid (And.intro hm3 (H2.out.trans (hb3.mono H2.out.size)))
  obtain ⟨mb, hmb⟩ : ∃ mb, mb = w2.heap.size := ⟨_, rfl⟩
  rw [← hmb] at H3 ⊢
  have HMB := Lib.hid (show w.heap.size ≤ mb by rw [hmb]; exact H2.out.size)
  clear hm3 hb3 hmb
  unfold ptrV
  go_wp2_with fail
  have hcall := table_any mb most (PM.compile x) w3 H3.out.1 (compile_fit x HX.out.2) (HT.out.below H3.out.2) h1 h4
  unfold ptrV at hcall
  refine hcall.mono ?_
  clear hcall
  rintro e w4 ⟨hb4, hres⟩
  have H4 := Lib.hid (And.intro (H3.out.1.below hb4) (H3.out.2.trans (hb4.mono H3.out.2.size)))
  clear hb4
  rcases hres with ⟨rfl, hwide⟩ | ⟨tb, L, ib, sv, ov, kv, rbs, sets, rows, rfl, hok, hall, hlen, hmem⟩
  ·go_wp2_with fail
   go_ret3
   exact ⟨H4.out.2, .big, _, _, _, .inr ⟨x, rfl, hwide⟩, rfl, rfl, .inr ⟨fun _ _ h => (by cases h), rfl, rfl⟩⟩
  ·have HTB := Lib.hid (And.intro hok (And.intro hall (And.intro hlen hmem)))
   clear hok hall hlen hmem
   unfold ptrV
   go_wp2_with fail
   have hcall := least_any mb tb ib w3.heap.size (PM.compile x) L sv ov kv rbs sets rows w4 H4.out.1 (compile_fit x HX.out.2) HTB.out.1 HTB.out.2.1 (Nat.le_trans HTB.out.2.2.1 h4) HTB.out.2.2.2
   unfold ptrV at hcall
   refine hcall.mono ?_
   clear hcall
   rintro e w5 ⟨c, rfl, hl, hb5⟩
   have H5 := Lib.hid (And.intro hl (And.intro (H4.out.1.below hb5) (H4.out.2.trans (hb5.mono H4.out.2.size))))
   clear hl hb5
   go_wp2_with fail
   go_ret3
   refine ⟨H5.out.2.2, .ok x c, _, _, _, ⟨rfl, ⟨sets, fun s hs => HTB.out.1.all HTB.out.2.1 hs, HTB.out.2.2.1⟩, H5.out.1⟩, rfl, rfl, .inl ⟨x, c, rfl, rfl, mb, HMB.out, rfl, H5.out.2.1⟩⟩
end Go.Proofs.Ts
namespace Go.Proofs.Ts
open Go Go.RowKit
/-- Between two looks: cells of other types than a segment's stand. -/
def Cells (w w' : World) : Prop := w.heap.size ≤ w'.heap.size ∧ ∀ (k : Nat) cs t r, w.heap[k]? = some (.cells cs t r) → t ≠ 96 → w'.heap[k]? = w.heap[k]?
theorem Cells.trans {a b c : World} (h : Cells a b) (k : Cells b c) : Cells a c := ⟨Nat.le_trans h.1 k.1, fun j cs t r h1 h2 => (k.2 j cs t r ((h.2 j cs t r h1 h2).trans h1) h2).trans (h.2 j cs t r h1 h2)⟩
theorem Cells.below {w w' : World} (h : Below w.heap.size w w') : Cells w w' := ⟨h.size, fun k cs t r hk _ => h.block k (Array.getElem?_eq_some_iff.1 hk).1⟩
/-- A block that stands as it was. -/
def BlockIn (w : World) (q : Nat × Array Value × TypeId) : Prop := w.heap[q.1]? = some (.cells q.2.1 q.2.2 (0, 0))
/-- A walker: called over a dictionary it hands its words on, those that are read, each with its number, till it is told to stop. -/
structure Goes (w : World) (fv : Value) (acc : List UInt8 → Bool) : Prop where
 ex : ∃ (f ab : Nat) (bl : List (Nat × Array Value × TypeId)), fv = .func (.func f) #[] #[ptrV ab] ∧ (∀ q ∈ bl, BlockIn w q ∧ q.2.2 ≠ 96) ∧ (∀ args w, (callFunc f args).run Tryz.prog w = .ok (.enter f args) w) ∧
  ∀ w1, (∀ q ∈ bl, BlockIn w1 q) → ∀ (db : Nat) (R : Nat → Prop) (Λ : Nat → List Word) (ρ : Nat → Nat) (D : List DS) (g : Nat) (lb : Array Value), (∀ args w, (callFunc g args).run Tryz.prog w = .ok (.enter g args) w) →
   DictIs w1 db R Λ ρ D → (Λ 0).length ≤ 1000000 → ∀ J Jx : List (List UInt8 × Nat) → World → Prop, (∀ ys wa wb, J ys wa → StepsB w1.heap.size wa wb → J ys wb) →
   (∀ ys t i wa, J ys wa → ys ++ [(t, i)] <+: hits acc (Λ 0) 0 → Calls Tryz.prog g (#[strV t, intV i] ++ lb) wa fun e wb => KeepT wa wb ∧ ((e = .returned (.bool true) ∧ J (ys ++ [(t, i)]) wb) ∨ (e = .returned (.bool false) ∧ Jx (ys ++ [(t, i)]) wb))) →
   J [] w1 → Calls Tryz.prog f #[ptrV db, .func (.func g) #[] lb, ptrV ab] w1 fun e w' => e = .returned (.tuple #[]) ∧ KeepT w1 w' ∧ (J (hits acc (Λ 0) 0) w' ∨ ∃ zs, zs <+: hits acc (Λ 0) 0 ∧ Jx zs w')
theorem Goes.kept {w w' : World} {fv : Value} {acc : List UInt8 → Bool} (h : Goes w fv acc) (hk : ∀ (k : Nat) cs t r, w.heap[k]? = some (.cells cs t r) → t ≠ 96 → w'.heap[k]? = w.heap[k]?) : Goes w' fv acc := by
 obtain ⟨f, ab, bl, h1, h2, h3, h4⟩ := h.ex
 exact ⟨f, ab, bl, h1, fun q hq => ⟨(hk _ _ _ _ (h2 q hq).1 (h2 q hq).2).trans (h2 q hq).1, (h2 q hq).2⟩, h3, h4⟩
theorem goes_int {iv : Value} {ok : Nat → Prop} {step : Nat → UInt8 → Option Nat} {ends : Nat → Bool} {s0 : Nat} (hA : AutI iv ok step ends) (hS0 : AutS iv s0) (hok0 : ok s0) {w : World} {ab : Nat}
  (hab : w.heap[ab]? = some (.cells #[iv] 206 (0, 0))) {acc : List UInt8 → Bool} (hacc : ∀ u, accA step ends s0 u = acc u) : Goes w (.func (.func 90) #[] #[ptrV ab]) acc := by
 obtain rfl : accA step ends s0 = acc := funext hacc
 exact ⟨_, ab, [(ab, #[iv], 206)], rfl, fun q hq => by
  obtain rfl := List.mem_singleton.1 hq
  exact ⟨hab, of_decide_eq_true rfl⟩, enters_of Tryz.func90 (by kernel_rfl) rfl, fun w1 h1 db R Λ ρ D g lb eg hd hl J Jx hJ hY hj0 => over_any hA hS0 hok0 g lb eg ab w1 hd hl (h1 _ List.mem_cons_self) J Jx hJ hY hj0⟩
/-- The words that a query means, where this text tells them. -/
def accOf (q : Asked) : Option (List UInt8 → Bool) :=
 if q.a.length ≤ 40 then (if q.kind = 1 then some (fun u => decide (u = q.a)) else if q.kind = 2 then some (fun u => decide (q.a <+: u))
  else if q.kind = 6 ∧ nearBad ⟨q.a.toArray⟩ q.n = none then some (accA (nstep (runesR ⟨q.a.toArray⟩) q.n.toNat) (nends (runesR ⟨q.a.toArray⟩) q.n.toNat) nstart) else none) else none
/-- What is wrong with a query, where this text tells it. -/
def errOf (q : Asked) : Option Int := if q.a.length ≤ 40 ∧ q.kind = 6 then nearBad ⟨q.a.toArray⟩ q.n else none
/-- What a plan's block owes its query. -/
structure PlanFor (w : World) (q : Asked) (pb : Nat) : Prop where
 goes : ∀ acc, accOf q = some acc → ∃ fv, w.heap[pb]? = some (.cells #[fv, .nilIface] 165 (0, 0)) ∧ Goes w fv acc
 errs : ∀ k, errOf q = some k → ∃ fv, w.heap[pb]? = some (.cells #[fv, errnoV k] 165 (0, 0))
theorem PlanFor.kept {w w' : World} {q : Asked} {pb : Nat} (h : PlanFor w q pb) (hk : ∀ (k : Nat) cs t r, w.heap[k]? = some (.cells cs t r) → t ≠ 96 → w'.heap[k]? = w.heap[k]?) : PlanFor w' q pb :=
 ⟨fun acc ha => by
  obtain ⟨fv, h1, h2⟩ := h.goes acc ha
  exact ⟨fv, (hk _ _ _ _ h1 (by decide)).trans h1, h2.kept hk⟩, fun k he => by
  obtain ⟨fv, h1⟩ := h.errs k he
  exact ⟨fv, (hk _ _ _ _ h1 (by decide)).trans h1⟩⟩
def askV (q : Asked) : Value := .agg #[.int .i64 q.kind, strV q.a, strV q.b, .int .i64 q.n]
/-- compile keeps its word, in every world that comes of w0. -/
def CompileOk (w0 : World) (q : Asked) : Prop := ∀ w, Cells w0 w → Calls Tryz.prog 102 #[askV q, .int .i64 q.states] w fun e w' => ∃ pb, e = .returned (ptrV pb) ∧ Below w.heap.size w w' ∧ w.heap.size ≤ pb ∧ PlanFor w' q pb
theorem CompileOk.kept {w0 w1 : World} {q : Asked} (h : CompileOk w0 q) (hc : Cells w0 w1) : CompileOk w1 q := fun w hw => h w (hc.trans hw)
theorem compile_one {w0 : World} {a b : List UInt8} {n st : Int} (ha : a.length ≤ 40) : CompileOk w0 ⟨1, a, b, n, st⟩ := fun w _ => by
 refine (compile_word ⟨a.toArray⟩ ⟨b.toArray⟩ n st w ha).mono ?_
 rintro e w' ⟨pb, he, hb, hp, ab, h1, h2⟩
 refine ⟨pb, he, hb, hp, ⟨fun acc hacc => ⟨_, h1, ?_⟩, fun k hk => by simp [errOf] at hk⟩⟩
 have hs : ByteArray.size ⟨a.toArray⟩ = a.length := by simp [ByteArray.size]
 refine goes_int (exact_aut ⟨a.toArray⟩ (by omega)) (exact_start _) (Nat.zero_le _) h2 fun u => ?_
 have h := exact_reads ⟨a.toArray⟩ u 0 (Nat.zero_le _)
 simp only [accOf, if_pos ha, if_true, Option.some.injEq] at hacc
 subst hacc
 rw [Bool.eq_iff_iff, h]
 simp
theorem compile_two {w0 : World} {a b : List UInt8} {n st : Int} (ha : a.length ≤ 40) : CompileOk w0 ⟨2, a, b, n, st⟩ := fun w _ => by
 refine (compile_pre ⟨a.toArray⟩ ⟨b.toArray⟩ n st w ha).mono ?_
 rintro e w' ⟨pb, he, hb, hp, ab, h1, h2⟩
 refine ⟨pb, he, hb, hp, ⟨fun acc hacc => ⟨_, h1, ?_⟩, fun k hk => by simp [errOf] at hk⟩⟩
 have hs : ByteArray.size ⟨a.toArray⟩ = a.length := by simp [ByteArray.size]
 refine goes_int (begins_aut ⟨a.toArray⟩ (by omega)) (begins_start _) (Nat.zero_le _) h2 fun u => ?_
 have h := begins_reads ⟨a.toArray⟩ u 0 (Nat.zero_le _)
 have h21 : ¬ (2 : Int) = 1 := by decide
 simp only [accOf, if_pos ha, if_neg h21, if_true, Option.some.injEq] at hacc
 subst hacc
 rw [Bool.eq_iff_iff, h]
 simp
end Go.Proofs.Ts
namespace Go.Proofs.Ts
open Go Go.RowKit Go.MuLone
/-- What is known, beyond block B: a map of plans, or none. -/
def KnownIs (B : Nat) (w : World) (kn : Value) : Prop :=
 kn = .map none ∨ ∃ (km : Nat) (m : List (Asked × Value)), kn = .map (some km) ∧ B ≤ km ∧ MapIs askedV w km m ∧ Apart m ∧ ∀ q v, get m q = some v → ∃ pb, v = ptrV pb ∧ PlanFor w q pb
theorem Cells.same {w w' : World} (h : Same w w') : Cells w w' := by
 obtain ⟨n, rfl⟩ := h
 exact ⟨Nat.le_refl _, fun _ _ _ _ _ _ => rfl⟩
theorem Cells.seg {w : World} {sb i : Nat} {cs : Array Value} {r : Nat × Nat} {v : Value} (h : w.heap[sb]? = some (.cells cs 96 r)) : Cells w (w.setCell ⟨sb, i, none⟩ v) := by
 refine ⟨by simp, fun k cs' t r' hk ht => Below.heap_setCell w _ _ k fun e => ?_⟩
 simp only at e
 rw [e, h] at hk
 cases hk
 exact ht rfl
theorem Cells.map {w w' : World} {km : Nat} {es : Array MapEntry} {c : Nat} (h : w.heap[km]? = some (.map es c)) (hg : w.grownBy w' (some km)) : Cells w w' :=
 ⟨hg.size, fun k cs t r hk _ => hg.block k (Array.getElem?_eq_some_iff.1 hk).1 fun e => by
  cases e
  rw [h] at hk
  cases hk⟩
theorem KnownIs.kept {B : Nat} {w w' : World} {kn : Value} (h : KnownIs B w kn) (hc : Cells w w') (hm : ∀ km, kn = .map (some km) → w'.heap[km]? = w.heap[km]?) : KnownIs B w' kn := by
 rcases h with h | ⟨km, m, h1, hB, h2, h3, h4⟩
 ·exact .inl h
 ·exact .inr ⟨km, m, h1, hB, h2.of_block (hm km h1), h3, fun q v hv => by
   obtain ⟨pb, e, hp⟩ := h4 q v hv
   exact ⟨pb, e, hp.kept hc.2⟩⟩
def segObj (nd db : Nat) (pv : Value) (l : Int) (kn : Value) : Obj := .cells #[.int .i64 nd, .pointer (some ⟨db, 0, none⟩), pv, .int .i32 l, .int .u32 0, kn] 96 (0, 0)
theorem seg_unlock {B : Nat} {w Wf : World} {sb nd db : Nat} {pv kn : Value} {q : Asked} {pb : Nat} (h : Wf.heap[sb]? = some (segObj nd db pv 1 kn)) (hk : KnownIs B Wf kn) (hp : PlanFor Wf q pb) (hc : Cells w Wf) (hb : Below B w Wf) (hsb : B ≤ sb) :
  PlanFor (Wf.setCell ⟨sb, 3, none⟩ (.int .i32 0)) q pb ∧ Cells w (Wf.setCell ⟨sb, 3, none⟩ (.int .i32 0)) ∧ Below B w (Wf.setCell ⟨sb, 3, none⟩ (.int .i32 0)) ∧ (Wf.setCell ⟨sb, 3, none⟩ (.int .i32 0)).heap[sb]? = some (segObj nd db pv 0 kn) ∧ KnownIs B (Wf.setCell ⟨sb, 3, none⟩ (.int .i32 0)) kn := by
 have hcs : Cells Wf (Wf.setCell ⟨sb, 3, none⟩ (.int .i32 0)) := Cells.seg h
 refine ⟨hp.kept hcs.2, hc.trans hcs, hb.setCell (p := ⟨sb, 3, none⟩) hsb _, heap_setCell_same _ sb 3 _ _ _ h, hk.kept hcs fun km e => Below.heap_setCell _ _ _ _ fun e' => ?_⟩
 rcases hk with h' | ⟨km', m, h', _, hmi, _⟩
 ·rw [h'] at e; cases e
 ·rw [h'] at e
  cases e
  obtain ⟨es, c, hm, _⟩ := hmi
  simp only at e'
  rw [e', h] at hm
  cases hm
set_option maxRecDepth 100000 in
set_option maxHeartbeats 4000000 in
theorem plan_any (B : Nat) (q : Asked) (sb nd db : Nat) (pv kn : Value) (w : World) (hB : B ≤ w.heap.size) (hsb : B ≤ sb)
  (hsg : w.heap[sb]? = some (segObj nd db pv 0 kn)) (hkn : KnownIs B w kn)
  (hcomp : CompileOk w q) :
  Calls Tryz.prog 69 #[ptrV sb, askV q, .int .i64 q.states] w fun e w' => ∃ pb kn', e = .returned (ptrV pb) ∧ PlanFor w' q pb ∧ Cells w w' ∧ Below B w w' ∧ w'.heap[sb]? = some (segObj nd db pv 0 kn') ∧ KnownIs B w' kn' := by
 have hsbl := (Array.getElem?_eq_some_iff.1 hsg).1
 have s3 : w.cell? ⟨sb, 3, none⟩ = some (.int .i32 0) := cell_block hsg
 have HSG := Lib.hid hsg
 have HKN := Lib.hid hkn
 have HCOMP := Lib.hid hcomp
 have hmm := @run_makeMap Tryz.prog
 clear hsg hkn hcomp
 unfold ptrV askV strV
 go_enter_defers Tryz.func69, Tryz.ntmps69
 go_wp2_with fail
 have l3 : (w.alloc (.cells #[.int .i64 q.kind, .string ⟨q.a.toArray⟩, .string ⟨q.b.toArray⟩, .int .i64 q.n] 37)).cell? ⟨sb, 3, none⟩ = some (.int .i32 0) := (World.cell?_alloc_lt w _ _ (lt_of_cell s3)).trans s3
 have lsg : (w.alloc (.cells #[.int .i64 q.kind, .string ⟨q.a.toArray⟩, .string ⟨q.b.toArray⟩, .int .i64 q.n] 37)).heap[sb]? = some (segObj nd db pv 0 kn) := (Below.heap_alloc w _ sb hsbl).trans HSG.out
 refine (lock_free Tryz.muLib ⟨sb, 3, none⟩ _ l3 (free_block lsg)).mono ?_
 rintro e w' ⟨rfl, rfl⟩
 have hw1 : ((w.alloc (.cells #[.int .i64 q.kind, .string ⟨q.a.toArray⟩, .string ⟨q.b.toArray⟩, .int .i64 q.n] 37)).setCell ⟨sb, 3, none⟩ (.int .i32 1)).heap[sb]? = some (segObj nd db pv 1 kn) := heap_setCell_same _ sb 3 _ _ _ lsg
 have hqb : ((w.alloc (.cells #[.int .i64 q.kind, .string ⟨q.a.toArray⟩, .string ⟨q.b.toArray⟩, .int .i64 q.n] 37)).setCell ⟨sb, 3, none⟩ (.int .i32 1)).heap[w.heap.size]? = some (.cells #[.int .i64 q.kind, .string ⟨q.a.toArray⟩, .string ⟨q.b.toArray⟩, .int .i64 q.n] 37 (0, 0)) := by
  rw [Below.heap_setCell _ _ _ _ (by simp only; omega)]
  exact heap_alloc_new w _
 have hce1 : Cells w ((w.alloc (.cells #[.int .i64 q.kind, .string ⟨q.a.toArray⟩, .string ⟨q.b.toArray⟩, .int .i64 q.n] 37)).setCell ⟨sb, 3, none⟩ (.int .i32 1)) := (Cells.below ((Below.refl _ w).alloc (Nat.le_refl _) _)).trans (Cells.seg lsg)
 have hbe1 : Below B w ((w.alloc (.cells #[.int .i64 q.kind, .string ⟨q.a.toArray⟩, .string ⟨q.b.toArray⟩, .int .i64 q.n] 37)).setCell ⟨sb, 3, none⟩ (.int .i32 1)) := ((Below.refl B w).alloc hB _).setCell (p := ⟨sb, 3, none⟩) hsb _
 have hkn1 : KnownIs B ((w.alloc (.cells #[.int .i64 q.kind, .string ⟨q.a.toArray⟩, .string ⟨q.b.toArray⟩, .int .i64 q.n] 37)).setCell ⟨sb, 3, none⟩ (.int .i32 1)) kn := HKN.out.kept hce1 fun km e => by
  rcases HKN.out with h | ⟨km', m, h, _, hmi, _⟩
  ·rw [h] at e; cases e
  ·rw [h] at e
   cases e
   have hl := hmi.lt
   rw [Below.heap_setCell _ _ _ _ (fun e => ?_), Below.heap_alloc _ _ _ hl]
   obtain ⟨es, c, hm, _⟩ := hmi
   simp only at e
   have h2 := HSG.out
   rw [← e, hm] at h2
   cases h2
 have hsz1 : ((w.alloc (.cells #[.int .i64 q.kind, .string ⟨q.a.toArray⟩, .string ⟨q.b.toArray⟩, .int .i64 q.n] 37)).setCell ⟨sb, 3, none⟩ (.int .i32 1)).heap.size = w.heap.size + 1 := by simp
 clear l3 lsg s3
 generalize ((w.alloc (.cells #[.int .i64 q.kind, .string ⟨q.a.toArray⟩, .string ⟨q.b.toArray⟩, .int .i64 q.n] 37)).setCell ⟨sb, 3, none⟩ (.int .i32 1)) = w1 at *
 have q0 : w1.cell? ⟨w.heap.size, 0, none⟩ = some (.int .i64 q.kind) := cell_block hqb
 have q1 : w1.cell? ⟨w.heap.size, 1, none⟩ = some (.string ⟨q.a.toArray⟩) := cell_block hqb
 have q2 : w1.cell? ⟨w.heap.size, 2, none⟩ = some (.string ⟨q.b.toArray⟩) := cell_block hqb
 have q3 : w1.cell? ⟨w.heap.size, 3, none⟩ = some (.int .i64 q.n) := cell_block hqb
 have HW1 := Lib.hid hw1
 have HQB := Lib.hid hqb
 have HCE1 := Lib.hid hce1
 have HBE1 := Lib.hid hbe1
 have HKN1 := Lib.hid hkn1
 clear hw1 hqb hce1 hbe1 hkn1
 go_wp2_with fail
 have hsbl1 := lt_of_heap HW1.out
 have hw2 : (w1.alloc (.cells #[.int .i64 q.kind, .string ⟨q.a.toArray⟩, .string ⟨q.b.toArray⟩, .int .i64 q.n, .int .i64 q.states] 219)).heap[sb]? = some (segObj nd db pv 1 kn) := (Below.heap_alloc w1 _ sb hsbl1).trans HW1.out
 have hqb2 : (w1.alloc (.cells #[.int .i64 q.kind, .string ⟨q.a.toArray⟩, .string ⟨q.b.toArray⟩, .int .i64 q.n, .int .i64 q.states] 219)).heap[w.heap.size]? = some (.cells #[.int .i64 q.kind, .string ⟨q.a.toArray⟩, .string ⟨q.b.toArray⟩, .int .i64 q.n] 37 (0, 0)) := (Below.heap_alloc w1 _ _ (lt_of_heap HQB.out)).trans HQB.out
 have hkb2 : (w1.alloc (.cells #[.int .i64 q.kind, .string ⟨q.a.toArray⟩, .string ⟨q.b.toArray⟩, .int .i64 q.n, .int .i64 q.states] 219)).heap[w.heap.size + 1]? = some (.cells #[.int .i64 q.kind, .string ⟨q.a.toArray⟩, .string ⟨q.b.toArray⟩, .int .i64 q.n, .int .i64 q.states] 219 (0, 0)) := by
  have := heap_alloc_new w1 (.cells #[.int .i64 q.kind, .string ⟨q.a.toArray⟩, .string ⟨q.b.toArray⟩, .int .i64 q.n, .int .i64 q.states] 219)
  rw [hsz1] at this
  exact this
 have hca2 : Cells w1 (w1.alloc (.cells #[.int .i64 q.kind, .string ⟨q.a.toArray⟩, .string ⟨q.b.toArray⟩, .int .i64 q.n, .int .i64 q.states] 219)) := Cells.below ((Below.refl _ w1).alloc (Nat.le_refl _) _)
 have hce2 := HCE1.out.trans hca2
 have hbe2 : Below B w (w1.alloc (.cells #[.int .i64 q.kind, .string ⟨q.a.toArray⟩, .string ⟨q.b.toArray⟩, .int .i64 q.n, .int .i64 q.states] 219)) := HBE1.out.alloc (by omega) _
 have hkn2 : KnownIs B (w1.alloc (.cells #[.int .i64 q.kind, .string ⟨q.a.toArray⟩, .string ⟨q.b.toArray⟩, .int .i64 q.n, .int .i64 q.states] 219)) kn := HKN1.out.kept hca2 fun km e => by
  rcases HKN1.out with h | ⟨km', m, h, _, hmi, _⟩
  ·rw [h] at e; cases e
  ·rw [h] at e
   cases e
   exact Below.heap_alloc w1 _ _ hmi.lt
 have hsz2 : (w1.alloc (.cells #[.int .i64 q.kind, .string ⟨q.a.toArray⟩, .string ⟨q.b.toArray⟩, .int .i64 q.n, .int .i64 q.states] 219)).heap.size = w.heap.size + 2 := by simp; omega
 clear HW1 HQB HCE1 HBE1 HKN1 hca2 hsbl1 q0 q1 q2 q3
 generalize (w1.alloc (.cells #[.int .i64 q.kind, .string ⟨q.a.toArray⟩, .string ⟨q.b.toArray⟩, .int .i64 q.n, .int .i64 q.states] 219)) = w2 at *
 have hlook : ∃ (r : Value) (ok : Bool), (∀ m, (Instr.lookup 94 kn (.agg #[.int .i64 q.kind, .string ⟨q.a.toArray⟩, .string ⟨q.b.toArray⟩, .int .i64 q.n, .int .i64 q.states]) true).run Tryz.prog (w2.drewN m) = .ok (.tuple #[r, .bool ok]) (w2.drewN m)) ∧
   (ok = true → ∃ pb, r = .pointer (some ⟨pb, 0, none⟩) ∧ PlanFor w2 q pb) := by
  rcases hkn2 with h | ⟨km, m, h, hBk, hmi, hap, hall⟩
  ·refine ⟨.pointer none, false, fun n => ?_, fun h => by cases h⟩
   rw [h]
   exact lookup_nil asked_law (w := w2.drewN n) q trivial Tryz.underlying94 (z := .pointer none) (by kernel_rfl) true
  ·refine ⟨(get m q).getD (.pointer none), (get m q).isSome, fun n => ?_, fun hs => ?_⟩
   ·rw [h]
    exact MapIs.lookup asked_law (hmi.of_block (w' := w2.drewN n) rfl) q trivial (fun _ _ => trivial) Tryz.underlying94 (z := .pointer none) (by kernel_rfl) true
   ·obtain ⟨v, hv⟩ := Option.isSome_iff_exists.1 hs
    obtain ⟨pb, e, hp⟩ := hall q v hv
    rw [hv]
    exact ⟨pb, e, hp⟩
 obtain ⟨r, ok, hlk, hok⟩ := hlook
 have c5 : w2.cell? ⟨sb, 5, none⟩ = some kn := cell_block hw2
 have k0 : w2.cell? ⟨w.heap.size + 1, 0, none⟩ = some (.int .i64 q.kind) := cell_block hkb2
 have k1 : w2.cell? ⟨w.heap.size + 1, 1, none⟩ = some (.string ⟨q.a.toArray⟩) := cell_block hkb2
 have k2 : w2.cell? ⟨w.heap.size + 1, 2, none⟩ = some (.string ⟨q.b.toArray⟩) := cell_block hkb2
 have k3 : w2.cell? ⟨w.heap.size + 1, 3, none⟩ = some (.int .i64 q.n) := cell_block hkb2
 have k4 : w2.cell? ⟨w.heap.size + 1, 4, none⟩ = some (.int .i64 q.states) := cell_block hkb2
 have HW2 := Lib.hid hw2
 have HQB2 := Lib.hid hqb2
 have HKB2 := Lib.hid hkb2
 have HCE2 := Lib.hid hce2
 have HBE2 := Lib.hid hbe2
 have HKN2 := Lib.hid hkn2
 have HOK := Lib.hid hok
 clear hw2 hqb2 hkb2 hce2 hbe2 hkn2 hok
 go_quiet (fail)
 have hS3 : Same w2 (w2.drewN nq) := Same.drewN _ _
 generalize w2.drewN nq = w3 at *
 cases ok with
 | true =>
  obtain ⟨pb, rfl, hpf⟩ := HOK.out rfl
  have hsf : w3.heap[sb]? = some (segObj nd db pv 1 kn) := by rw [hS3.heap]; exact HW2.out
  have HSF := Lib.hid hsf
  have HKF := Lib.hid (HKN2.out.kept (Cells.same hS3) fun km _ => by rw [hS3.heap])
  have HPF := Lib.hid (hpf.kept (Cells.same hS3).2)
  have HCF := Lib.hid (HCE2.out.trans (Cells.same hS3))
  have HBF := Lib.hid (HBE2.out.trans (hS3.below B))
  clear hpf c5 k0 k1 k2 k3 k4 hlk hsf
  go_wp2_with fail
  refine leaves_cons (f := 101) (args := #[.pointer (some ⟨sb, 3, none⟩)]) (by simp) (by simp [go_sem]) ?_
  refine (unlock_deferred Tryz.muLib ⟨sb, 3, none⟩ .returning _ (cell_block HSF.out) (free_block HSF.out)).mono ?_
  rintro e u' w'' ⟨rfl, rfl, rfl⟩
  obtain ⟨u1, u2, u3, u4, u5⟩ := seg_unlock HSF.out HKF.out HPF.out HCF.out HBF.out hsb
  refine ⟨_, results_tmp rfl _ _ _, ?_⟩
  first
   | exact ⟨_, _, rfl, u1, u2, u3, u4, u5⟩
   | exact ⟨_, rfl, u1, u2, u3, _, u4, u5⟩
 | false =>
  have hq3 : w3.heap[w.heap.size]? = some (.cells #[.int .i64 q.kind, .string ⟨q.a.toArray⟩, .string ⟨q.b.toArray⟩, .int .i64 q.n] 37 (0, 0)) := (congrArg (fun h : Array Obj => h[w.heap.size]?) hS3.heap).trans HQB2.out
  have q0 : w3.cell? ⟨w.heap.size, 0, none⟩ = some (.int .i64 q.kind) := cell_block hq3
  have q1 : w3.cell? ⟨w.heap.size, 1, none⟩ = some (.string ⟨q.a.toArray⟩) := cell_block hq3
  have q2 : w3.cell? ⟨w.heap.size, 2, none⟩ = some (.string ⟨q.b.toArray⟩) := cell_block hq3
  have q3 : w3.cell? ⟨w.heap.size, 3, none⟩ = some (.int .i64 q.n) := cell_block hq3
  clear hq3 c5 k0 k1 k2 k3 k4 hlk
  go_wp2_with fail
  have hcc := HCOMP.out w3 (HCE2.out.trans (Cells.same hS3))
  unfold askV strV at hcc
  refine hcc.mono ?_
  rintro e w4 ⟨pb, rfl, hb4, hpbge, hpf4⟩
  have hsz3 : w3.heap.size = w.heap.size + 2 := by rw [hS3.heap]; exact hsz2
  have hsb4 : w4.heap[sb]? = some (segObj nd db pv 1 kn) := (hb4.block sb (by omega)).trans ((congrArg (fun h : Array Obj => h[sb]?) hS3.heap).trans HW2.out)
  have hkb4 : w4.heap[w.heap.size + 1]? = some (.cells #[.int .i64 q.kind, .string ⟨q.a.toArray⟩, .string ⟨q.b.toArray⟩, .int .i64 q.n, .int .i64 q.states] 219 (0, 0)) := (hb4.block (w.heap.size + 1) (by omega)).trans ((congrArg (fun h : Array Obj => h[w.heap.size + 1]?) hS3.heap).trans HKB2.out)
  have hc34 : Cells w2 w4 := (Cells.same hS3).trans (Cells.below hb4)
  have hkn4 : KnownIs B w4 kn := HKN2.out.kept hc34 fun km e => by
   rcases HKN2.out with h | ⟨km', m, h, _, hmi, _⟩
   ·rw [h] at e; cases e
   ·rw [h] at e
    cases e
    exact (hb4.block _ (by rw [hS3.heap]; exact hmi.lt)).trans (by rw [hS3.heap])
  have hce4 := HCE2.out.trans hc34
  have hbe4 : Below B w w4 := (HBE2.out.trans (hS3.below B)).trans (hb4.mono (by omega))
  have c5 : w4.cell? ⟨sb, 5, none⟩ = some kn := cell_block hsb4
  have f5 : w4.frozen? ⟨sb, 5, none⟩ = false := free_block hsb4
  have hsz4 : w.heap.size + 2 ≤ w4.heap.size := by have := hb4.size; omega
  have HSB4 := Lib.hid hsb4
  have HKB4 := Lib.hid hkb4
  have HKN4 := Lib.hid hkn4
  have HCE4 := Lib.hid hce4
  have HBE4 := Lib.hid hbe4
  have HPF4 := Lib.hid hpf4
  clear hcc hb4 hpf4 hsb4 hkb4 hc34 hkn4 hce4 hbe4 q0 q1 q2 q3
  unfold ptrV
  have qT : ∀ (w : World) (r : Option Nat), (binOp .eql 94 (.map r) (.map none)).run Tryz.prog w = .ok (.bool r.isNone) w := fun w r => run_eql_map_nil w _ _ _ r Tryz.underlying94
  rcases HKN4.out with h | ⟨km, m, h, hkmB, hmi, hap, hall⟩
  ·subst h
   have lw4 := lt_of_heap HSB4.out
   have fr1 : (w4.alloc (.map #[] 0)).frozen? ⟨sb, 5, none⟩ = false := free_block ((Below.heap_alloc w4 _ sb lw4).trans HSB4.out)
   have cr1 := (World.cell?_alloc_lt w4 (.map #[] 0) ⟨sb, 5, none⟩ lw4).trans c5
   go_wp2_with fail
   have gs5 : ((w4.setCell ⟨sb, 5, none⟩ (.map (some w4.heap.size))).alloc (.map #[] 0)).heap[sb]? = some (segObj nd db pv 1 (.map (some w4.heap.size))) := (Below.heap_alloc _ _ sb (by simpa using lw4)).trans (heap_setCell_same _ sb 5 _ _ _ HSB4.out)
   have lwk := lt_of_heap HKB4.out
   have gk5 : ((w4.setCell ⟨sb, 5, none⟩ (.map (some w4.heap.size))).alloc (.map #[] 0)).heap[w.heap.size + 1]? = some (.cells #[.int .i64 q.kind, .string ⟨q.a.toArray⟩, .string ⟨q.b.toArray⟩, .int .i64 q.n, .int .i64 q.states] 219 (0, 0)) := ((Below.heap_alloc _ _ _ (by simpa using lwk)).trans (Below.heap_setCell _ _ _ _ (by simp only; omega))).trans HKB4.out
   have gm5 : MapIs askedV ((w4.setCell ⟨sb, 5, none⟩ (.map (some w4.heap.size))).alloc (.map #[] 0)) w4.heap.size ([] : List (Asked × Value)) := by
    have := MapIs.made askedV (w4.setCell ⟨sb, 5, none⟩ (.map (some w4.heap.size)))
    simpa using this
   have gc5 : Cells w4 ((w4.setCell ⟨sb, 5, none⟩ (.map (some w4.heap.size))).alloc (.map #[] 0)) := (Cells.seg HSB4.out).trans (Cells.below ((Below.refl _ _).alloc (Nat.le_refl _) _))
   have gb5 : Below B w ((w4.setCell ⟨sb, 5, none⟩ (.map (some w4.heap.size))).alloc (.map #[] 0)) := (HBE4.out.setCell (p := ⟨sb, 5, none⟩) hsb _).alloc (by simp; omega) _
   have HSG5 := Lib.hid gs5
   have HKB5 := Lib.hid gk5
   have HMI5 := Lib.hid gm5
   have HAP5 := Lib.hid (show Apart ([] : List (Asked × Value)) from List.nodup_nil)
   have HALL5 := Lib.hid (show ∀ q' v, get ([] : List (Asked × Value)) q' = some v → ∃ pb, v = ptrV pb ∧ PlanFor ((w4.setCell ⟨sb, 5, none⟩ (.map (some w4.heap.size))).alloc (.map #[] 0)) q' pb from fun q' v hv => by cases hv)
   have HPF5 := Lib.hid (HPF4.out.kept gc5.2)
   have HCE5 := Lib.hid (HCE4.out.trans gc5)
   have HBE5 := Lib.hid gb5
   have hkmB5 : B ≤ w4.heap.size := by omega
   clear gs5 gk5 gm5 gc5 gb5 cr1 fr1 c5 f5
   generalize ((w4.setCell ⟨sb, 5, none⟩ (.map (some w4.heap.size))).alloc (.map #[] 0)) = W5 at *
   generalize w4.heap.size = km5 at *
   generalize ([] : List (Asked × Value)) = m5 at *
   obtain ⟨kb0, kb1, kb2, kb3, kb4⟩ : W5.cell? ⟨w.heap.size + 1, 0, none⟩ = some (.int .i64 q.kind) ∧ W5.cell? ⟨w.heap.size + 1, 1, none⟩ = some (.string ⟨q.a.toArray⟩) ∧ W5.cell? ⟨w.heap.size + 1, 2, none⟩ = some (.string ⟨q.b.toArray⟩) ∧ W5.cell? ⟨w.heap.size + 1, 3, none⟩ = some (.int .i64 q.n) ∧ W5.cell? ⟨w.heap.size + 1, 4, none⟩ = some (.int .i64 q.states) := ⟨cell_block HKB5.out, cell_block HKB5.out, cell_block HKB5.out, cell_block HKB5.out, cell_block HKB5.out⟩
   have cs5 : W5.cell? ⟨sb, 5, none⟩ = some (.map (some km5)) := cell_block HSG5.out
   refine wp_region_ordX [(0, false), (1, false), (2, false), (3, false), (4, false), (5, false), (6, true)] 6
    (fun w' => Same W5 w') (by kernel_rfl) (by kernel_rfl) (Same.drew _) ?_
   iterate 6 (
    refine wpOrd_quiet ?_ rfl rfl (fun w' hS => ?_) ?_
    rotate_left
    ·have f0 := (hS.cell ⟨w.heap.size + 1, 0, none⟩).trans kb0
     have f1 := (hS.cell ⟨w.heap.size + 1, 1, none⟩).trans kb1
     have f2 := (hS.cell ⟨w.heap.size + 1, 2, none⟩).trans kb2
     have f3 := (hS.cell ⟨w.heap.size + 1, 3, none⟩).trans kb3
     have f4 := (hS.cell ⟨w.heap.size + 1, 4, none⟩).trans kb4
     have f5 := (hS.cell ⟨sb, 5, none⟩).trans cs5
     go_simp
     first | rfl | done
    simp only [put_lit, List.set_cons_succ, List.set_cons_zero])
   refine wpOrd_last rfl rfl (fun K5 hK5 => ?_)
   obtain ⟨W6, hrun6, hmap6, hg6, hz6⟩ := MapIs.update asked_law (HMI5.out.of_block (w' := W5.drew) rfl) q trivial (fun _ _ => trivial) Tryz.underlying94 (ptrV pb)
   have hrun6' : (Instr.mapUpdate 94 (.map (some km5)) (.agg #[.int .i64 q.kind, .string ⟨q.a.toArray⟩, .string ⟨q.b.toArray⟩, .int .i64 q.n, .int .i64 q.states]) (.pointer (some ⟨pb, 0, none⟩))).run Tryz.prog W5.drew = .ok () W6 := hrun6
   clear hrun6
   go_simp
   have hcm : Cells W5 W6 := by
    obtain ⟨es, c, hm, _⟩ := HMI5.out
    exact (Cells.same (Same.drew _)).trans (Cells.map (w := W5.drew) hm hg6)
   have hne : sb ≠ km5 := fun e => by
    obtain ⟨es, c, hm, _⟩ := HMI5.out
    have h2 := HSG5.out
    rw [e, hm] at h2
    cases h2
   have hsf : W6.heap[sb]? = some (segObj nd db pv 1 (.map (some km5))) := (hg6.block sb (lt_of_heap HSG5.out) (fun e => hne (Option.some.inj e))).trans HSG5.out
   have hpf6 := HPF5.out.kept hcm.2
   have hkf : KnownIs B W6 (.map (some km5)) := .inr ⟨km5, _, rfl, hkmB5, hmap6, HAP5.out.put q _, fun q' v hv => by
    rw [get_put] at hv
    split at hv
    ·rename_i e
     cases hv
     exact ⟨pb, rfl, e ▸ hpf6⟩
    ·obtain ⟨pb', e', hp'⟩ := HALL5.out q' v hv
     exact ⟨pb', e', hp'.kept hcm.2⟩⟩
   have HSF := Lib.hid hsf
   have HKF := Lib.hid hkf
   have HPF := Lib.hid hpf6
   have HCF := Lib.hid (HCE5.out.trans hcm)
   have HBF := Lib.hid ((HBE5.out.drew).grown hg6 (by have := HBE5.out.size; simp; omega) (fun k e => by cases e; exact hkmB5))
   clear hsf hkf hpf6 hcm hrun6' hmap6 hg6 hz6 kb0 kb1 kb2 kb3 kb4 cs5
   refine hK5 _ _ ?_
   clear hK5 K5
   go_wp2_with fail
   refine leaves_cons (f := 101) (args := #[.pointer (some ⟨sb, 3, none⟩)]) (by simp) (by simp [go_sem]) ?_
   refine (unlock_deferred Tryz.muLib ⟨sb, 3, none⟩ .returning _ (cell_block HSF.out) (free_block HSF.out)).mono ?_
   rintro e u' w'' ⟨rfl, rfl, rfl⟩
   obtain ⟨u1, u2, u3, u4, u5⟩ := seg_unlock HSF.out HKF.out HPF.out HCF.out HBF.out hsb
   refine ⟨_, results_tmp rfl _ _ _, ?_⟩
   first
    | exact ⟨_, _, rfl, u1, u2, u3, u4, u5⟩
    | exact ⟨_, rfl, u1, u2, u3, _, u4, u5⟩
  ·have hlt := hmi.lt
   obtain ⟨es, c, hm, hmr⟩ := id hmi
   have hne : sb ≠ km := fun e => by
    have h2 := HSB4.out
    rw [e, hm] at h2
    cases h2
   subst h
   have hrunl : ∀ w' : World, Same w4 w' → (Builtin.len_ #[94] 3 #[.map (some km)]).run Tryz.prog w' = .ok (.int .i64 es.size) w' := fun w' hS => by
    have hm' : w'.heap[km]? = some (.map es c) := by rw [hS.heap]; exact hm
    unfold Builtin.len_
    simp only [Sem.run_bind, List.getElem?_toArray, List.getElem?_cons_zero, run_underlying Tryz.underlying94, Result.andThen_ok]
    rw [getObj_run (w := w') hm']
    rfl
   by_cases h64 : (64 : Int) ≤ (es.size : Int)
   ·have h64' : decide ((64 : Int) ≤ (es.size : Int)) = true := by simp [h64]
    have hl0 := hrunl w4 ⟨0, rfl⟩
    have hl1 := hrunl w4.drew (Same.drew w4)
    clear hrunl
    have lw4 := lt_of_heap HSB4.out
    have fr1 : (w4.alloc (.map #[] 0)).frozen? ⟨sb, 5, none⟩ = false := free_block ((Below.heap_alloc w4 _ sb lw4).trans HSB4.out)
    have cr1 := (World.cell?_alloc_lt w4 (.map #[] 0) ⟨sb, 5, none⟩ lw4).trans c5
    go_wp2_with fail
    have gs5 : ((w4.setCell ⟨sb, 5, none⟩ (.map (some w4.heap.size))).alloc (.map #[] 0)).heap[sb]? = some (segObj nd db pv 1 (.map (some w4.heap.size))) := (Below.heap_alloc _ _ sb (by simpa using lw4)).trans (heap_setCell_same _ sb 5 _ _ _ HSB4.out)
    have lwk := lt_of_heap HKB4.out
    have gk5 : ((w4.setCell ⟨sb, 5, none⟩ (.map (some w4.heap.size))).alloc (.map #[] 0)).heap[w.heap.size + 1]? = some (.cells #[.int .i64 q.kind, .string ⟨q.a.toArray⟩, .string ⟨q.b.toArray⟩, .int .i64 q.n, .int .i64 q.states] 219 (0, 0)) := ((Below.heap_alloc _ _ _ (by simpa using lwk)).trans (Below.heap_setCell _ _ _ _ (by simp only; omega))).trans HKB4.out
    have gm5 : MapIs askedV ((w4.setCell ⟨sb, 5, none⟩ (.map (some w4.heap.size))).alloc (.map #[] 0)) w4.heap.size ([] : List (Asked × Value)) := by
     have := MapIs.made askedV (w4.setCell ⟨sb, 5, none⟩ (.map (some w4.heap.size)))
     simpa using this
    have gc5 : Cells w4 ((w4.setCell ⟨sb, 5, none⟩ (.map (some w4.heap.size))).alloc (.map #[] 0)) := (Cells.seg HSB4.out).trans (Cells.below ((Below.refl _ _).alloc (Nat.le_refl _) _))
    have gb5 : Below B w ((w4.setCell ⟨sb, 5, none⟩ (.map (some w4.heap.size))).alloc (.map #[] 0)) := (HBE4.out.setCell (p := ⟨sb, 5, none⟩) hsb _).alloc (by simp; omega) _
    have HSG5 := Lib.hid gs5
    have HKB5 := Lib.hid gk5
    have HMI5 := Lib.hid gm5
    have HAP5 := Lib.hid (show Apart ([] : List (Asked × Value)) from List.nodup_nil)
    have HALL5 := Lib.hid (show ∀ q' v, get ([] : List (Asked × Value)) q' = some v → ∃ pb, v = ptrV pb ∧ PlanFor ((w4.setCell ⟨sb, 5, none⟩ (.map (some w4.heap.size))).alloc (.map #[] 0)) q' pb from fun q' v hv => by cases hv)
    have HPF5 := Lib.hid (HPF4.out.kept gc5.2)
    have HCE5 := Lib.hid (HCE4.out.trans gc5)
    have HBE5 := Lib.hid gb5
    have hkmB5 : B ≤ w4.heap.size := by omega
    clear gs5 gk5 gm5 gc5 gb5 cr1 fr1 c5 f5
    generalize ((w4.setCell ⟨sb, 5, none⟩ (.map (some w4.heap.size))).alloc (.map #[] 0)) = W5 at *
    generalize w4.heap.size = km5 at *
    generalize ([] : List (Asked × Value)) = m5 at *
    obtain ⟨kb0, kb1, kb2, kb3, kb4⟩ : W5.cell? ⟨w.heap.size + 1, 0, none⟩ = some (.int .i64 q.kind) ∧ W5.cell? ⟨w.heap.size + 1, 1, none⟩ = some (.string ⟨q.a.toArray⟩) ∧ W5.cell? ⟨w.heap.size + 1, 2, none⟩ = some (.string ⟨q.b.toArray⟩) ∧ W5.cell? ⟨w.heap.size + 1, 3, none⟩ = some (.int .i64 q.n) ∧ W5.cell? ⟨w.heap.size + 1, 4, none⟩ = some (.int .i64 q.states) := ⟨cell_block HKB5.out, cell_block HKB5.out, cell_block HKB5.out, cell_block HKB5.out, cell_block HKB5.out⟩
    have cs5 : W5.cell? ⟨sb, 5, none⟩ = some (.map (some km5)) := cell_block HSG5.out
    refine wp_region_ordX [(0, false), (1, false), (2, false), (3, false), (4, false), (5, false), (6, true)] 6
     (fun w' => Same W5 w') (by kernel_rfl) (by kernel_rfl) (Same.drew _) ?_
    iterate 6 (
     refine wpOrd_quiet ?_ rfl rfl (fun w' hS => ?_) ?_
     rotate_left
     ·have f0 := (hS.cell ⟨w.heap.size + 1, 0, none⟩).trans kb0
      have f1 := (hS.cell ⟨w.heap.size + 1, 1, none⟩).trans kb1
      have f2 := (hS.cell ⟨w.heap.size + 1, 2, none⟩).trans kb2
      have f3 := (hS.cell ⟨w.heap.size + 1, 3, none⟩).trans kb3
      have f4 := (hS.cell ⟨w.heap.size + 1, 4, none⟩).trans kb4
      have f5 := (hS.cell ⟨sb, 5, none⟩).trans cs5
      go_simp
      first | rfl | done
     simp only [put_lit, List.set_cons_succ, List.set_cons_zero])
    refine wpOrd_last rfl rfl (fun K5 hK5 => ?_)
    obtain ⟨W6, hrun6, hmap6, hg6, hz6⟩ := MapIs.update asked_law (HMI5.out.of_block (w' := W5.drew) rfl) q trivial (fun _ _ => trivial) Tryz.underlying94 (ptrV pb)
    have hrun6' : (Instr.mapUpdate 94 (.map (some km5)) (.agg #[.int .i64 q.kind, .string ⟨q.a.toArray⟩, .string ⟨q.b.toArray⟩, .int .i64 q.n, .int .i64 q.states]) (.pointer (some ⟨pb, 0, none⟩))).run Tryz.prog W5.drew = .ok () W6 := hrun6
    clear hrun6
    go_simp
    have hcm : Cells W5 W6 := by
     obtain ⟨es, c, hm, _⟩ := HMI5.out
     exact (Cells.same (Same.drew _)).trans (Cells.map (w := W5.drew) hm hg6)
    have hne : sb ≠ km5 := fun e => by
     obtain ⟨es, c, hm, _⟩ := HMI5.out
     have h2 := HSG5.out
     rw [e, hm] at h2
     cases h2
    have hsf : W6.heap[sb]? = some (segObj nd db pv 1 (.map (some km5))) := (hg6.block sb (lt_of_heap HSG5.out) (fun e => hne (Option.some.inj e))).trans HSG5.out
    have hpf6 := HPF5.out.kept hcm.2
    have hkf : KnownIs B W6 (.map (some km5)) := .inr ⟨km5, _, rfl, hkmB5, hmap6, HAP5.out.put q _, fun q' v hv => by
     rw [get_put] at hv
     split at hv
     ·rename_i e
      cases hv
      exact ⟨pb, rfl, e ▸ hpf6⟩
     ·obtain ⟨pb', e', hp'⟩ := HALL5.out q' v hv
      exact ⟨pb', e', hp'.kept hcm.2⟩⟩
    have HSF := Lib.hid hsf
    have HKF := Lib.hid hkf
    have HPF := Lib.hid hpf6
    have HCF := Lib.hid (HCE5.out.trans hcm)
    have HBF := Lib.hid ((HBE5.out.drew).grown hg6 (by have := HBE5.out.size; simp; omega) (fun k e => by cases e; exact hkmB5))
    clear hsf hkf hpf6 hcm hrun6' hmap6 hg6 hz6 kb0 kb1 kb2 kb3 kb4 cs5
    refine hK5 _ _ ?_
    clear hK5 K5
    go_wp2_with fail
    refine leaves_cons (f := 101) (args := #[.pointer (some ⟨sb, 3, none⟩)]) (by simp) (by simp [go_sem]) ?_
    refine (unlock_deferred Tryz.muLib ⟨sb, 3, none⟩ .returning _ (cell_block HSF.out) (free_block HSF.out)).mono ?_
    rintro e u' w'' ⟨rfl, rfl, rfl⟩
    obtain ⟨u1, u2, u3, u4, u5⟩ := seg_unlock HSF.out HKF.out HPF.out HCF.out HBF.out hsb
    refine ⟨_, results_tmp rfl _ _ _, ?_⟩
    first
     | exact ⟨_, _, rfl, u1, u2, u3, u4, u5⟩
     | exact ⟨_, rfl, u1, u2, u3, _, u4, u5⟩
   ·have h64' : decide ((64 : Int) ≤ (es.size : Int)) = false := by simp [h64]
    have HKB5 := HKB4
    have HSG5 := HSB4
    have HMI5 := Lib.hid hmi
    have HAP5 := Lib.hid hap
    have HALL5 := Lib.hid hall
    have HPF5 := HPF4
    have HCE5 := HCE4
    have HBE5 := HBE4
    clear hm hmr hmi hap hall
    have hl0 := hrunl w4 ⟨0, rfl⟩
    have hl1 := hrunl w4.drew (Same.drew w4)
    clear hrunl
    go_wp2_with fail
    clear hl0 hl1 f5 c5 h64 h64'
    generalize w4 = W5 at *
    generalize hkm5 : km = km5 at *
    have hkmB5 := hkmB
    obtain ⟨kb0, kb1, kb2, kb3, kb4⟩ : W5.cell? ⟨w.heap.size + 1, 0, none⟩ = some (.int .i64 q.kind) ∧ W5.cell? ⟨w.heap.size + 1, 1, none⟩ = some (.string ⟨q.a.toArray⟩) ∧ W5.cell? ⟨w.heap.size + 1, 2, none⟩ = some (.string ⟨q.b.toArray⟩) ∧ W5.cell? ⟨w.heap.size + 1, 3, none⟩ = some (.int .i64 q.n) ∧ W5.cell? ⟨w.heap.size + 1, 4, none⟩ = some (.int .i64 q.states) := ⟨cell_block HKB5.out, cell_block HKB5.out, cell_block HKB5.out, cell_block HKB5.out, cell_block HKB5.out⟩
    have cs5 : W5.cell? ⟨sb, 5, none⟩ = some (.map (some km5)) := cell_block HSG5.out
    refine wp_region_ordX [(0, false), (1, false), (2, false), (3, false), (4, false), (5, false), (6, true)] 6
     (fun w' => Same W5 w') (by kernel_rfl) (by kernel_rfl) (Same.drew _) ?_
    iterate 6 (
     refine wpOrd_quiet ?_ rfl rfl (fun w' hS => ?_) ?_
     rotate_left
     ·have f0 := (hS.cell ⟨w.heap.size + 1, 0, none⟩).trans kb0
      have f1 := (hS.cell ⟨w.heap.size + 1, 1, none⟩).trans kb1
      have f2 := (hS.cell ⟨w.heap.size + 1, 2, none⟩).trans kb2
      have f3 := (hS.cell ⟨w.heap.size + 1, 3, none⟩).trans kb3
      have f4 := (hS.cell ⟨w.heap.size + 1, 4, none⟩).trans kb4
      have f5 := (hS.cell ⟨sb, 5, none⟩).trans cs5
      go_simp
      first | rfl | done
     simp only [put_lit, List.set_cons_succ, List.set_cons_zero])
    refine wpOrd_last rfl rfl (fun K5 hK5 => ?_)
    obtain ⟨W6, hrun6, hmap6, hg6, hz6⟩ := MapIs.update asked_law (HMI5.out.of_block (w' := W5.drew) rfl) q trivial (fun _ _ => trivial) Tryz.underlying94 (ptrV pb)
    have hrun6' : (Instr.mapUpdate 94 (.map (some km5)) (.agg #[.int .i64 q.kind, .string ⟨q.a.toArray⟩, .string ⟨q.b.toArray⟩, .int .i64 q.n, .int .i64 q.states]) (.pointer (some ⟨pb, 0, none⟩))).run Tryz.prog W5.drew = .ok () W6 := hrun6
    clear hrun6
    go_simp
    have hcm : Cells W5 W6 := by
     obtain ⟨es, c, hm, _⟩ := HMI5.out
     exact (Cells.same (Same.drew _)).trans (Cells.map (w := W5.drew) hm hg6)
    have hne : sb ≠ km5 := fun e => by
     obtain ⟨es, c, hm, _⟩ := HMI5.out
     have h2 := HSG5.out
     rw [e, hm] at h2
     cases h2
    have hsf : W6.heap[sb]? = some (segObj nd db pv 1 (.map (some km5))) := (hg6.block sb (lt_of_heap HSG5.out) (fun e => hne (Option.some.inj e))).trans HSG5.out
    have hpf6 := HPF5.out.kept hcm.2
    have hkf : KnownIs B W6 (.map (some km5)) := .inr ⟨km5, _, rfl, hkmB5, hmap6, HAP5.out.put q _, fun q' v hv => by
     rw [get_put] at hv
     split at hv
     ·rename_i e
      cases hv
      exact ⟨pb, rfl, e ▸ hpf6⟩
     ·obtain ⟨pb', e', hp'⟩ := HALL5.out q' v hv
      exact ⟨pb', e', hp'.kept hcm.2⟩⟩
    have HSF := Lib.hid hsf
    have HKF := Lib.hid hkf
    have HPF := Lib.hid hpf6
    have HCF := Lib.hid (HCE5.out.trans hcm)
    have HBF := Lib.hid ((HBE5.out.drew).grown hg6 (by have := HBE5.out.size; simp; omega) (fun k e => by cases e; exact hkmB5))
    clear hsf hkf hpf6 hcm hrun6' hmap6 hg6 hz6 kb0 kb1 kb2 kb3 kb4 cs5
    refine hK5 _ _ ?_
    clear hK5 K5
    go_wp2_with fail
    refine leaves_cons (f := 101) (args := #[.pointer (some ⟨sb, 3, none⟩)]) (by simp) (by simp [go_sem]) ?_
    refine (unlock_deferred Tryz.muLib ⟨sb, 3, none⟩ .returning _ (cell_block HSF.out) (free_block HSF.out)).mono ?_
    rintro e u' w'' ⟨rfl, rfl, rfl⟩
    obtain ⟨u1, u2, u3, u4, u5⟩ := seg_unlock HSF.out HKF.out HPF.out HCF.out HBF.out hsb
    refine ⟨_, results_tmp rfl _ _ _, ?_⟩
    first
     | exact ⟨_, _, rfl, u1, u2, u3, u4, u5⟩
     | exact ⟨_, rfl, u1, u2, u3, _, u4, u5⟩
end Go.Proofs.Ts
namespace Go.Proofs.Ts
open Go Go.RowKit
/-- A segment, its parts named. -/
def SegAt (w : World) (sb : Nat) (D : List (List (List UInt8))) (kn : Value) (db : Nat) (R : Nat → Prop) (Λ : Nat → List Word) (ρ : Nat → Nat) (Dd : List DS) (pv : Value) (ps : List Value) : Prop :=
 w.heap[sb]? = some (segObj D.length db pv 0 kn) ∧
  DictIs w db R Λ ρ Dd ∧ (Λ 0).Pairwise (fun a b => a < b) ∧ (∀ x, x ∈ Λ 0 ↔ postsOf D x ≠ []) ∧ (Λ 0).length ≤ 10000 ∧ (∀ x ∈ Λ 0, x.length ≤ 16) ∧
  w.ownsRow 0 27 1 pv (Λ 0).length ps ∧ ∀ (i : Nat) v x, ps[i]? = some v → (Λ 0)[i]? = some x → w.ownsRow 0 3 1 v (postsOf D x).length ((postsOf D x).map intV)
theorem SegIs.at {w : World} {sb : Nat} {D : List (List (List UInt8))} {kn : Value} (h : SegIs w sb D kn) : ∃ db R Λ ρ Dd pv ps, SegAt w sb D kn db R Λ ρ Dd pv ps := h.ex
theorem SegAt.is {w : World} {sb : Nat} {D : List (List (List UInt8))} {kn : Value} {db : Nat} {R : Nat → Prop} {Λ : Nat → List Word} {ρ : Nat → Nat} {Dd : List DS} {pv : Value} {ps : List Value} (h : SegAt w sb D kn db R Λ ρ Dd pv ps) : SegIs w sb D kn := ⟨db, R, Λ, ρ, Dd, pv, ps, h⟩
section
variable {w w' : World} {sb : Nat} {D : List (List (List UInt8))} {kn kn' : Value} {db : Nat} {R : Nat → Prop} {Λ : Nat → List Word} {ρ : Nat → Nat} {Dd : List DS} {pv : Value} {ps : List Value}
theorem SegAt.kept (h : SegAt w sb D kn db R Λ ρ Dd pv ps) (hc : Cells w w') (hs : w'.heap[sb]? = some (segObj D.length db pv 0 kn')) : SegAt w' sb D kn' db R Λ ρ Dd pv ps := by
 obtain ⟨h1, h2, h3, h4, h5, h6, h7, h8⟩ := h
 exact ⟨hs, h2.kept hc.2, h3, h4, h5, h6, ownsRow_typed h7 fun k cs r hk => hc.2 k cs _ r hk (by decide), fun i v x hv hx => ownsRow_typed (h8 i v x hv hx) fun k cs r hk => hc.2 k cs _ r hk (by decide)⟩
theorem SegAt.below (h : SegAt w sb D kn db R Λ ρ Dd pv ps) (hb : Below w.heap.size w w') : SegAt w' sb D kn db R Λ ρ Dd pv ps :=
 h.kept (Cells.below hb) ((hb.block sb (lt_of_heap h.1)).trans h.1)
end
theorem KnownIs.below {B : Nat} {w w' : World} {kn : Value} (h : KnownIs B w kn) (hb : Below w.heap.size w w') : KnownIs B w' kn :=
 h.kept (Cells.below hb) fun km e => by
  rcases h with h' | ⟨km', m, h', _, hmi, _⟩
  ·rw [h'] at e; cases e
  ·rw [h'] at e
   cases e
   exact hb.block _ hmi.lt
set_option maxRecDepth 100000 in
set_option maxHeartbeats 2000000 in
theorem terms_any (B : Nat) (q : Asked) (acc : List UInt8 → Bool) (most sb : Nat) (D : List (List (List UInt8))) (kn : Value) (db : Nat) (R : Nat → Prop) (Λ : Nat → List Word) (ρ : Nat → Nat) (Dd : List DS) (pv : Value) (ps : List Value) (w : World)
  (hB : B ≤ w.heap.size) (hsb : B ≤ sb) (hseg : SegAt w sb D kn db R Λ ρ Dd pv ps) (hkn : KnownIs B w kn) (st : Nat) (hst : q.states = st) (hst1 : 1 ≤ st ∧ st ≤ 400) (hmost : most ≤ 2000000) (hcomp : CompileOk w q) (hacc : accOf q = some acc) :
  Calls Tryz.prog 41 #[ptrV sb, askV q, .int .i64 st, .int .i64 most] w fun e w' => ∃ fv er kn', e = .returned (.tuple #[fv, er]) ∧ SegAt w' sb D kn' db R Λ ρ Dd pv ps ∧ KnownIs B w' kn' ∧ Below B w w' ∧ Cells w w' ∧
   (((hits acc (Λ 0) 0).length ≤ most ∧ er = .nilIface ∧ w'.ownsRow 0 120 2 fv (hits acc (Λ 0) 0).length (foundCells (hits acc (Λ 0) 0)) ∧ Past w.heap.size fv) ∨ (most < (hits acc (Λ 0) 0).length ∧ er = .iface 33 (.int .i64 10) ∧ fv = .slice none 0 0)) := by
 have hmf : ∀ (fn : Fn) (first cap : Array Value) (w : World), (Instr.makeFunc fn first cap).run Tryz.prog w = .ok (.func fn first cap) w := fun _ _ _ _ => rfl
 have hhl : (hits acc (Λ 0) 0).length ≤ 10000 := Nat.le_trans (by unfold hits; exact Nat.le_trans (List.length_filter_le _ _) (by simp)) hseg.2.2.2.2.1
 have hsbl := lt_of_heap hseg.1
 have g1 : decide ((st : Int) < 1) = false := by simp <;> omega
 have g2 : decide ((400 : Int) < (st : Int)) = false := by simp <;> omega
 have g3 : decide ((most : Int) < 0) = false := by simp
 have HSEG := Lib.hid hseg
 have HKN := Lib.hid hkn
 clear hseg hkn
 unfold ptrV askV strV
 go_enter Tryz.func41, Tryz.ntmps41
 go_wp2_with fail
 clear g1 g2 g3
 have hal : Below w.heap.size w ((w.alloc (.cells #[.int .i64 q.kind, .string ⟨q.a.toArray⟩, .string ⟨q.b.toArray⟩, .int .i64 q.n] 37)).alloc (.cells #[.int .i64 most] 3)) := ((Below.refl _ w).alloc (Nat.le_refl _) _).alloc (by simp) _
 have hmb : ((w.alloc (.cells #[.int .i64 q.kind, .string ⟨q.a.toArray⟩, .string ⟨q.b.toArray⟩, .int .i64 q.n] 37)).alloc (.cells #[.int .i64 most] 3)).heap[w.heap.size + 1]? = some (.cells #[.int .i64 most] 3 (0, 0)) := by
  have := heap_alloc_new (w.alloc (.cells #[.int .i64 q.kind, .string ⟨q.a.toArray⟩, .string ⟨q.b.toArray⟩, .int .i64 q.n] 37)) (.cells #[.int .i64 most] 3)
  rw [World.size_alloc] at this
  exact this
 generalize ((w.alloc (.cells #[.int .i64 q.kind, .string ⟨q.a.toArray⟩, .string ⟨q.b.toArray⟩, .int .i64 q.n] 37)).alloc (.cells #[.int .i64 most] 3)) = w2 at *
 have hseg2 := HSEG.out.below hal
 have hplan := plan_any B q sb D.length db pv kn w2 (Nat.le_trans hB hal.size) hsb hseg2.1 (HKN.out.below hal) (hcomp.kept (Cells.below hal))
 have HSEG2 := Lib.hid hseg2
 have HAL := Lib.hid hal
 have HMB := Lib.hid hmb
 clear hseg2 hal hmb
 rw [hst] at hplan
 unfold ptrV askV strV at hplan
 refine hplan.mono ?_
 clear hplan
 rintro e w1 ⟨pb, kn', rfl, hpf, hce, hbe, hsg1, hkn1⟩
 obtain ⟨fv, hpb, hgo⟩ := hpf.goes acc hacc
 obtain ⟨f, ab, bl, rfl, hab, ef, hwalk⟩ := hgo.ex
 have hseg1 := HSEG2.out.kept hce hsg1
 have hmb1 : w1.heap[w.heap.size + 1]? = some (.cells #[.int .i64 most] 3 (0, 0)) := (hce.2 _ _ _ _ HMB.out (by decide)).trans HMB.out
 have p0 : w1.cell? ⟨pb, 0, none⟩ = some (.func (.func f) #[] #[.pointer (some ⟨ab, 0, none⟩)]) := cell_block hpb
 have p1 : w1.cell? ⟨pb, 1, none⟩ = some .nilIface := cell_block hpb
 have s1 : w1.cell? ⟨sb, 1, none⟩ = some (.pointer (some ⟨db, 0, none⟩)) := cell_block hsg1
 have HWALK := Lib.hid hwalk
 have HSEG1 := Lib.hid hseg1
 have HKN1 := Lib.hid hkn1
 have HBE := Lib.hid hbe
 have HCE := Lib.hid ((Cells.below HAL.out).trans hce)
 have HAB := Lib.hid hab
 have HMB1 := Lib.hid hmb1
 have hmbl := lt_of_heap hmb1
 have hsz2 := HAL.out.size
 clear hgo hpf hwalk hseg1 hkn1 hbe hce hab hmb1 HSEG2 HMB hpb hsg1
 go_wp2_with fail
 have l0 : (w1.alloc (.cells #[.slice none 0 0] 99)).cell? ⟨pb, 0, none⟩ = some (.func (.func f) #[] #[.pointer (some ⟨ab, 0, none⟩)]) := (World.cell?_alloc_lt w1 _ _ (lt_of_cell p0)).trans p0
 have l1 : (w1.alloc (.cells #[.slice none 0 0] 99)).cell? ⟨sb, 1, none⟩ = some (.pointer (some ⟨db, 0, none⟩)) := (World.cell?_alloc_lt w1 _ _ (lt_of_cell s1)).trans s1
 have hlb : (w1.alloc (.cells #[.slice none 0 0] 99)).heap[w1.heap.size]? = some (.cells #[.slice none 0 0] 99 (0, 0)) := heap_alloc_new _ _
 have hbl : Below w1.heap.size w1 (w1.alloc (.cells #[.slice none 0 0] 99)) := (Below.refl _ w1).alloc (Nat.le_refl _) _
 have HLB := Lib.hid hlb
 have HBL := Lib.hid hbl
 clear hlb hbl p1
 generalize (w1.alloc (.cells #[.slice none 0 0] 99)) = w3 at *
 have hend : ∀ (ys : List (List UInt8 × Nat)) (W : World), TJ w1 w1.heap.size (w.heap.size + 1) most ys W → W.cell? ⟨pb, 0, none⟩ = some (.func (.func f) #[] #[.pointer (some ⟨ab, 0, none⟩)]) ∧ W.cell? ⟨sb, 1, none⟩ = some (.pointer (some ⟨db, 0, none⟩)) := fun ys W h =>
  ⟨(h.below.cell (p := ⟨pb, 0, none⟩) (lt_of_cell p0)).trans p0, (h.below.cell (p := ⟨sb, 1, none⟩) (lt_of_cell s1)).trans s1⟩
 have HEND := Lib.hid hend
 clear hend p0 s1
 refine wp_region_ord [(0, false), (1, false), (2, false), (3, false), (4, false), (5, false), (6, false), (7, false), (8, false), (9, true)]
  (fun w' => w'.cell? ⟨pb, 0, none⟩ = some (.func (.func f) #[] #[.pointer (some ⟨ab, 0, none⟩)]) ∧ w'.cell? ⟨sb, 1, none⟩ = some (.pointer (some ⟨db, 0, none⟩))) (by kernel_rfl) (by kernel_rfl) ⟨l0, l1⟩ ?_
 iterate 9 (
  refine wpOrd_quiet ?_ rfl rfl (fun w' hS => ?_) ?_
  rotate_left
  ·obtain ⟨f0, f1⟩ := hS
   go_simp
   first | rfl | done
  simp only [put_lit, List.set_cons_succ, List.set_cons_zero])
 refine wpOrd_loud rfl rfl (by decide) (fun K5 hK5 => ?_)
 go_simp
 have hbd : Below w1.heap.size w1 w3.drew := HBL.out.drew
 have hrun := HWALK.out w3.drew (fun q hq => (hbd.block _ (lt_of_heap (HAB.out q hq).1)).trans (HAB.out q hq).1) db R Λ ρ Dd 70 #[.pointer (some ⟨w1.heap.size, 0, none⟩), .pointer (some ⟨w.heap.size + 1, 0, none⟩)]
  (enters_of Tryz.func70 (by kernel_rfl) rfl) (HSEG1.out.below hbd).2.1 (by have := HSEG1.out.2.2.2.2.1; omega)
  (fun ys W => TJ w1 w1.heap.size (w.heap.size + 1) most ys W ∧ ys.length ≤ most) (fun ys W => TJ w1 w1.heap.size (w.heap.size + 1) most ys W ∧ most < ys.length)
  (fun ys wa wb h hs => ⟨h.1.steps (by have := hbd.size; omega) hs, h.2⟩)
  (fun ys t i wa h hp => by
   have hyl : ys.length ≤ 10000 := by have := hp.length_le; simp at this; omega
   refine (yield_any w1 w1.heap.size (w.heap.size + 1) most ys t i wa h.1 (by omega) hmost).mono ?_
   rintro e wb ⟨hk, htj, rfl⟩
   refine ⟨hk, ?_⟩
   by_cases hle : ys.length + 1 ≤ most
   ·exact .inl ⟨by rw [decide_eq_true hle], htj, by simp; omega⟩
   ·exact .inr ⟨by rw [decide_eq_false hle], htj, by simp; omega⟩)
  ⟨⟨⟨.slice none 0 0, (congrArg (·[w1.heap.size]?) (Same.drew w3).heap).trans HLB.out, World.ownsRow_nil _ _ _ _, (fun k e => by cases e), (fun e => by cases e)⟩, (hbd.block _ hmbl).trans HMB1.out, hbd, Nat.le_refl _⟩, Nat.zero_le _⟩
 unfold ptrV at hrun
 refine hrun.mono ?_
 clear hrun hbd l0 l1
 rintro e W5 ⟨rfl, _, hres⟩
 have hall : ∃ zs, TJ w1 w1.heap.size (w.heap.size + 1) most zs W5 ∧ ((zs = hits acc (Λ 0) 0 ∧ zs.length ≤ most) ∨ (most < zs.length ∧ zs.length ≤ 10000 ∧ most < (hits acc (Λ 0) 0).length)) := by
  rcases hres with ⟨h1, h2⟩ | ⟨zs, h1, h2, h3⟩
  ·exact ⟨_, h1, .inl ⟨rfl, h2⟩⟩
  ·have := h1.length_le
   exact ⟨zs, h2, .inr ⟨h3, by omega, by omega⟩⟩
 clear hres
 obtain ⟨zs, htj, hzs⟩ := hall
 refine hK5 _ _ (HEND.out zs W5 htj) ?_
 clear hK5 K5
 refine wpOrd_nil ?_
 obtain ⟨v, hbox, hrow, hpast, _⟩ := htj.box
 obtain ⟨va, vc, rfl⟩ := ownsRow_form hrow
 have c0 : W5.cell? ⟨w1.heap.size, 0, none⟩ = some (.slice va zs.length vc) := cell_block hbox
 have c1 : W5.cell? ⟨w.heap.size + 1, 0, none⟩ = some (.int .i64 most) := cell_block htj.lim
 have hsegF := HSEG1.out.below htj.below
 have hknF := HKN1.out.below htj.below
 have hbF : Below B w W5 := ((HAL.out.mono hB).trans HBE.out).trans (htj.below.mono (by have := HBE.out.size; omega))
 have HSEGF := Lib.hid hsegF
 have HKNF := Lib.hid hknF
 have HBF := Lib.hid hbF
 have HCF := Lib.hid (HCE.out.trans (Cells.below htj.below))
 have HROW := Lib.hid hrow
 have HPAST := Lib.hid hpast
 have hsz1 := HBE.out.size
 clear hsegF hknF hbF hrow hpast htj hbox HEND
 rcases hzs with ⟨rfl, hle⟩ | ⟨hgt, hzl, hgt2⟩
 ·have d1 : decide ((most : Int) < ((hits acc (Λ 0) 0).length : Int)) = false := by simp <;> omega
  go_wp2_with fail
  go_ret2
  exact ⟨_, _, kn', rfl, HSEGF.out, HKNF.out, HBF.out, HCF.out, .inl ⟨hle, rfl, HROW.out, fun k e => by have := HPAST.out k e; omega⟩⟩
 ·have d1 : decide ((most : Int) < (zs.length : Int)) = true := by simp <;> omega
  go_wp2_with fail
  go_ret2
  exact ⟨_, _, kn', rfl, HSEGF.out, HKNF.out, HBF.out, HCF.out, .inr ⟨hgt2, rfl, rfl⟩⟩
end Go.Proofs.Ts
