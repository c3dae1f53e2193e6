/- Lemmas towards the statement Sorted of termsearch: walks of the program's functions and plain laws on lists (TsSort2, TsSortP, TsSort3, TsSort4, TsSort5, TsSort6). Conditions: those that each theorem names. -/
import Derived.Test.YtglafkgakcfahaaGreatDoorSortedPL
import Derived.Shelf.SlSortCmp.KitK
import Derived.Deep.CutBlock
import Derived.Deep.DeepCutAuto
/- slices.rotateCmpFunc at elements of three cells: two neighbouring rows change places. Conditions: those that each theorem names. -/
set_option linter.unusedVariables false
set_option linter.unusedSimpArgs false
namespace Go.Proofs.Ts
open Go Go.Shelf Go.RowKit Go.Lib Go.Sort
variable {α : Type} [Inhabited α]

theorem swp_list (p q r : List α) (s t : α) (i j : Nat) (hi : i = p.length) (hj : j = p.length + 1 + q.length) :
    swp (p ++ s :: (q ++ t :: r)).toArray i j = (p ++ t :: (q ++ s :: r)).toArray := by
  subst hi hj
  have e1 : (p ++ s :: (q ++ t :: r)).toArray[p.length]! = s := by simp
  have e2 : (p ++ s :: (q ++ t :: r)).toArray[p.length + 1 + q.length]! = t := by
    simp only [List.getElem!_toArray]
    rw [List.getElem!_eq_getElem?_getD, List.getElem?_append_right (by omega), show p.length + 1 + q.length - p.length = q.length + 1 by omega, List.getElem?_cons_succ, List.getElem?_append_right (by omega)]
    simp
  unfold swp
  rw [e1, e2]
  simp only [List.setIfInBounds_toArray]
  congr 1
  rw [List.set_append_right _ _ (Nat.le_refl _), Nat.sub_self, List.set_cons_zero, List.set_append_right _ _ (by omega), show p.length + 1 + q.length - p.length = q.length + 1 by omega, List.set_cons_succ, List.set_append_right _ _ (Nat.le_refl _), Nat.sub_self, List.set_cons_zero]

theorem swapRange_list : ∀ (n : Nat) (p x q y r : List α) (a b : Nat), x.length = n → y.length = n → a = p.length → b = p.length + n + q.length →
    swapRange a b n (p ++ x ++ q ++ y ++ r).toArray = (p ++ y ++ q ++ x ++ r).toArray := by
  intro n
  induction n with
  | zero =>
    intro p x q y r a b hx hy ha hb
    obtain rfl := List.length_eq_zero_iff.1 hx
    obtain rfl := List.length_eq_zero_iff.1 hy
    rfl
  | succ n ih =>
    intro p x q y r a b hx hy ha hb
    obtain ⟨x', s, rfl⟩ : ∃ x' s, x = x' ++ [s] := ⟨x.dropLast, x.getLast (by intro h; simp [h] at hx), (List.dropLast_concat_getLast _).symm⟩
    obtain ⟨y', t, rfl⟩ : ∃ y' t, y = y' ++ [t] := ⟨y.dropLast, y.getLast (by intro h; simp [h] at hy), (List.dropLast_concat_getLast _).symm⟩
    have hx' : x'.length = n := by simpa using hx
    have hy' : y'.length = n := by simpa using hy
    have e1 : p ++ (x' ++ [s]) ++ q ++ (y' ++ [t]) ++ r = p ++ x' ++ (s :: q) ++ y' ++ (t :: r) := by simp
    have e2 : p ++ (y' ++ [t]) ++ q ++ (x' ++ [s]) ++ r = (p ++ y') ++ t :: ((q ++ x') ++ s :: r) := by simp
    rw [e1, e2, swapRange, ih p x' (s :: q) y' (t :: r) a b hx' hy' ha (by rw [hb]; simp only [List.length_cons]; omega)]
    have e3 : p ++ y' ++ (s :: q) ++ x' ++ (t :: r) = (p ++ y') ++ s :: ((q ++ x') ++ t :: r) := by simp
    rw [e3]
    exact swp_list (p ++ y') (q ++ x') r s t _ _ (by simp [ha, hy']) (by simp [hb, hx', hy']; omega)

/-- swapRange, on lists. -/
theorem swapRange_w (enc : α → List Value) (g : Nat) (cb : Array Value) (blk off cap N a b n : Nat) (d0 : Array α) (w0 w : World)
    (k : Nat) (hk3 : 3 = k) (R : RowK enc k w0 blk off d0) (p x q y r l : List α) (hl : l = p ++ x ++ q ++ y ++ r) (hs : d0.size = N) (hN : l.length = N) (S : SWK enc k w0 blk off l.toArray w) (hx : x.length = n) (hy : y.length = n) (ha : a = p.length) (hb : b = p.length + n + q.length) (hsz : N < 4611686018427387904) :
    Calls Tryz.prog 175 #[.slice (some ⟨blk, off, none⟩) N cap, .int .i64 a, .int .i64 b, .int .i64 n, .func (.func g) #[] cb] w fun e w' => e = .returned (.tuple #[]) ∧ SWK enc k w0 blk off (p ++ y ++ q ++ x ++ r).toArray w' := by
  subst hl
  have hn := hN
  simp only [List.length_append] at hn
  have := swapRange_any enc g cb blk off cap a b n d0 (p ++ x ++ q ++ y ++ r).toArray w0 w k hk3 R (by rw [hs, List.size_toArray, hN]) S (by rw [List.size_toArray, hN]; omega) (by rw [List.size_toArray, hN]; omega) (by rw [List.size_toArray, hN]; exact hsz)
  rw [swapRange_list n p x q y r a b hx hy ha hb, List.size_toArray, hN] at this
  exact this

set_option maxHeartbeats 4000000 in
set_option maxRecDepth 1000000 in
theorem rotate_any (enc : α → List Value) (g : Nat) (cb : Array Value) (blk off cap N a m b : Nat) (d0 : Array α) (w0 w : World)
    (k : Nat) (hk3 : 3 = k) (R : RowK enc k w0 blk off d0) (p u v r l : List α) (hl : l = p ++ u ++ v ++ r) (hs : d0.size = N) (hN : l.length = N) (S : SWK enc k w0 blk off l.toArray w) (ha : p.length = a) (hm : a + u.length = m) (hb : m + v.length = b) (hu : 0 < u.length) (hv : 0 < v.length) (hsz : N < 4611686018427387904) :
    Calls Tryz.prog 155 #[.slice (some ⟨blk, off, none⟩) N cap, .int .i64 a, .int .i64 m, .int .i64 b, .func (.func g) #[] cb] w fun e w' => e = .returned (.tuple #[]) ∧ SWK enc k w0 blk off (p ++ v ++ u ++ r).toArray w' := by
  have hnl : p.length + u.length + v.length + r.length = N := by rw [← hN, hl]; simp only [List.length_append]
  have S0 : Aside (SWK enc k w0 blk off l.toArray w) := S
  have HL := Lib.hid hl
  have HS := Lib.hid hs
  have HA := Lib.hid ha
  clear S hl hs hN
  obtain ⟨nu, hnu⟩ : ∃ n, n = u.length := ⟨_, rfl⟩
  obtain ⟨nv, hnv⟩ : ∃ n, n = v.length := ⟨_, rfl⟩
  obtain ⟨nr, hnr⟩ : ∃ n, n = r.length := ⟨_, rfl⟩
  rw [← hnu] at hm hu hnl
  rw [← hnv] at hb hv hnl
  rw [← hnr] at hnl
  rw [ha] at hnl
  have HU := Lib.hid hnu
  have HVL := Lib.hid hnv
  have HR := Lib.hid hnr
  clear hnu hnv hnr ha
  go_enter Tryz.func155, Tryz.ntmps155
  go_wp2
  go_loopg [10, 11] (nu + nv) (fun kx s10 s11 wr => ∃ (i j : Nat), s10 = .int .i64 i ∧ s11 = .int .i64 j ∧ 0 < i ∧ 0 < j ∧ i ≤ m ∧ m + j ≤ N ∧ i + j ≤ kx ∧
    Aside (∃ p' u' v' r' : List α, SWK enc k w0 blk off (p' ++ u' ++ v' ++ r').toArray wr ∧ u'.length = i ∧ v'.length = j ∧ p'.length + i = m ∧ (p' ++ u' ++ v' ++ r').length = N ∧ p' ++ v' ++ u' ++ r' = p ++ v ++ u ++ r))
  case atStart =>
    refine ⟨nu, nv, by go_num, by go_num, hu, hv, by omega, by omega, Nat.le_refl _, ⟨p, u, v, r, by rw [← HL.out]; exact S0.out, HU.out.symm, HVL.out.symm, by rw [HA.out]; omega, ?_, rfl⟩⟩
    simp only [List.length_append]
    rw [← HU.out, ← HVL.out, ← HR.out, HA.out]; omega
  case round =>
    clear S0
    obtain ⟨i, j, rfl, rfl, hi, hj, him, hjm, hkx, HP⟩ := hrel
    by_cases hij : i = j
    · subst hij
      go_wp2_with fail
      obtain ⟨p', u', v', r', S1, h1, h2, h3, h4, h5⟩ := HP.out
      have e1 : ((m : Int) - (i : Int)) = ((m - i : Nat) : Int) := by omega
      try rw [e1]
      refine (swapRange_w enc g cb blk off cap N (m - i) m i d0 w0 wr k hk3 R p' u' [] v' r' (p' ++ u' ++ v' ++ r') (by simp) HS.out h4 S1 h1 h2 (by omega) (by simp; omega) hsz).mono ?_
      rintro e w2 ⟨rfl, S2⟩
      rw [List.append_nil, h5] at S2
      have S3 := Lib.hid S2
      clear S1 h1 h2 h3 h4 h5 S2 HP
      go_wp2_with fail
      go_end0
      exact ⟨rfl, S3.out⟩
    · by_cases hlt : j < i
      · have hltz : (j : Int) < (i : Int) := by omega
        have hneq : ¬ (i : Int) = (j : Int) := by omega
        go_wp2_with fail
        obtain ⟨p', u', v', r', S1, h1, h2, h3, h4, h5⟩ := HP.out
        have e1 : ((m : Int) - (i : Int)) = ((m - i : Nat) : Int) := by omega
        try rw [e1]
        have eu : u'.take j ++ u'.drop j = u' := List.take_append_drop j u'
        have l1 : (u'.take j).length = j := by rw [List.length_take, h1]; omega
        have l2 : (u'.drop j).length = i - j := by rw [List.length_drop, h1]
        refine (swapRange_w enc g cb blk off cap N (m - i) m j d0 w0 wr k hk3 R p' (u'.take j) (u'.drop j) v' r' (p' ++ u' ++ v' ++ r') (by rw [show p' ++ u'.take j ++ u'.drop j = p' ++ u' by rw [List.append_assoc, eu]]) HS.out h4 S1 l1 h2 (by omega) (by rw [l2]; omega) hsz).mono ?_
        rintro e w2 ⟨rfl, S2⟩
        have S3 : Aside (∃ p' u' v' r' : List α, SWK enc k w0 blk off (p' ++ u' ++ v' ++ r').toArray w2 ∧ u'.length = i - j ∧ v'.length = j ∧ p'.length + (i - j) = m ∧ (p' ++ u' ++ v' ++ r').length = N ∧ p' ++ v' ++ u' ++ r' = p ++ v ++ u ++ r) := by
          refine ⟨p' ++ v', u'.drop j, u'.take j, r', S2, l2, l1, by rw [List.length_append]; omega, ?_, ?_⟩
          · rw [← h4, ← eu]; simp only [List.length_append, eu]; omega
          · rw [← h5, ← eu]; simp only [List.append_assoc, eu]
        clear S1 h1 h2 h3 h4 h5 S2 HP eu l1 l2
        go_wp2
        go_roundg (i - j + j)
        case measure => omega
        case rel => exact ⟨i - j, j, by go_num, by go_num, by omega, hj, by omega, hjm, Nat.le_refl _, S3⟩
      · have hltz : ¬ (j : Int) < (i : Int) := by omega
        have hneq : ¬ (i : Int) = (j : Int) := by omega
        go_wp2_with fail
        obtain ⟨p', u', v', r', S1, h1, h2, h3, h4, h5⟩ := HP.out
        have e1 : ((m : Int) - (i : Int)) = ((m - i : Nat) : Int) := by omega
        try rw [e1]
        have e2 : ((m : Int) + (j : Int) - (i : Int)) = ((m + j - i : Nat) : Int) := by omega
        try rw [e2]
        have eu : v'.take (j - i) ++ v'.drop (j - i) = v' := List.take_append_drop _ v'
        have l1 : (v'.take (j - i)).length = j - i := by rw [List.length_take, h2]; omega
        have l2 : (v'.drop (j - i)).length = i := by rw [List.length_drop, h2]; omega
        refine (swapRange_w enc g cb blk off cap N (m - i) (m + j - i) i d0 w0 wr k hk3 R p' u' (v'.take (j - i)) (v'.drop (j - i)) r' (p' ++ u' ++ v' ++ r') (by rw [show p' ++ u' ++ v'.take (j - i) ++ v'.drop (j - i) = p' ++ u' ++ v' by rw [List.append_assoc, eu]]) HS.out h4 S1 h1 l2 (by omega) (by rw [l1]; omega) hsz).mono ?_
        rintro e w2 ⟨rfl, S2⟩
        have S3 : Aside (∃ p' u' v' r' : List α, SWK enc k w0 blk off (p' ++ u' ++ v' ++ r').toArray w2 ∧ u'.length = i ∧ v'.length = j - i ∧ p'.length + i = m ∧ (p' ++ u' ++ v' ++ r').length = N ∧ p' ++ v' ++ u' ++ r' = p ++ v ++ u ++ r) := by
          refine ⟨p', v'.drop (j - i), v'.take (j - i), u' ++ r', by rw [← List.append_assoc]; exact S2, l2, l1, h3, ?_, ?_⟩
          · rw [← h4, ← eu]; simp only [List.length_append, eu]; omega
          · rw [← h5, ← eu]; simp only [List.append_assoc, eu]
        clear S1 h1 h2 h3 h4 h5 S2 HP eu l1 l2
        go_wp2
        go_roundg (i + (j - i))
        case measure => omega
        case rel => exact ⟨i, j - i, by go_num, by go_num, hi, by omega, him, by omega, Nat.le_refl _, S3⟩
end Go.Proofs.Ts
/- Plain laws on sorted lists: one element set into its place; two sorted rows cut so that the first halves lie below the second (symMerge). No program in sight. -/
set_option linter.unusedVariables false
set_option linter.unusedSimpArgs false
namespace Go.Proofs.Ts
open Go Go.Shelf Go.Sort
variable {α : Type} [Inhabited α]

/-- s may stand ahead of t. -/
def Le (cf : α → α → Int) (s t : α) : Prop := ¬ cf t s < 0
def Srt (cf : α → α → Int) (l : List α) : Prop := l.Pairwise (Le cf)

variable {cf : α → α → Int}
omit [Inhabited α] in
theorem Le.refl (hO : SWO (ltOf cf)) (s : α) : Le cf s s := by
  have := hO.irrefl s; unfold ltOf at this; exact of_decide_eq_false this
omit [Inhabited α] in
theorem Le.trans (hO : SWO (ltOf cf)) {s t u : α} (h : Le cf s t) (k : Le cf t u) : Le cf s u := by
  have := hO.ntrans u t s (by unfold ltOf; exact decide_eq_false k) (by unfold ltOf; exact decide_eq_false h)
  unfold ltOf at this; exact of_decide_eq_false this
omit [Inhabited α] in
theorem Le.of_lt (hO : SWO (ltOf cf)) {s t : α} (h : cf s t < 0) : Le cf s t := fun k => by
  have h1 := hO.trans s t s (by unfold ltOf; exact decide_eq_true h) (by unfold ltOf; exact decide_eq_true k)
  rw [hO.irrefl s] at h1; cases h1

omit [Inhabited α] in
/-- An element set into a sorted row. -/
theorem Srt.put (hO : SWO (ltOf cf)) {y1 y2 : List α} {e : α} (h : Srt cf (y1 ++ y2)) (h1 : ∀ z s, y1 = z ++ [s] → Le cf s e) (h2 : ∀ s z, y2 = s :: z → Le cf e s) : Srt cf (y1 ++ e :: y2) := by
  unfold Srt at h ⊢
  rw [List.pairwise_append] at h ⊢
  obtain ⟨p1, p2, p3⟩ := h
  have ha : ∀ t ∈ y1, Le cf t e := fun t ht => by
    obtain ⟨z, s, rfl⟩ : ∃ z s, y1 = z ++ [s] := ⟨y1.dropLast, y1.getLast (List.ne_nil_of_mem ht), (List.dropLast_concat_getLast _).symm⟩
    have hs := h1 z s rfl
    rcases List.mem_append.1 ht with ht | ht
    · exact Le.trans hO ((List.pairwise_append.1 p1).2.2 t ht s (List.mem_singleton.2 rfl)) hs
    · rw [List.mem_singleton.1 ht]; exact hs
  have hb : ∀ t ∈ y2, Le cf e t := fun t ht => by
    cases y2 with
    | nil => cases ht
    | cons s z =>
      have hs := h2 s z rfl
      rcases List.mem_cons.1 ht with rfl | ht
      · exact hs
      · exact Le.trans hO hs ((List.pairwise_cons.1 p2).1 t ht)
  refine ⟨p1, List.pairwise_cons.2 ⟨hb, p2⟩, fun s hs t ht => ?_⟩
  rcases List.mem_cons.1 ht with rfl | ht
  · exact ha s hs
  · exact p3 s hs t ht

theorem get_at (p x r : List α) (i : Nat) (h : i < x.length) : (p ++ x ++ r)[p.length + i]! = x[i]! := by
  rw [List.getElem!_eq_getElem?_getD, List.getElem!_eq_getElem?_getD, List.getElem?_append_left (by rw [List.length_append]; omega), List.getElem?_append_right (by omega), show p.length + i - p.length = i by omega]

theorem Srt.at {x : List α} (hO : SWO (ltOf cf)) (h : Srt cf x) {i j : Nat} (hij : i ≤ j) (hj : j < x.length) : Le cf x[i]! x[j]! := by
  rw [List.getElem!_eq_getElem?_getD, List.getElem!_eq_getElem?_getD, List.getElem?_eq_getElem hj, List.getElem?_eq_getElem (show i < x.length by omega)]
  simp only [Option.getD_some]
  rcases Nat.lt_or_ge i j with h1 | h1
  · exact List.pairwise_iff_getElem.1 h i j (by omega) hj h1
  · have : i = j := by omega
    subst this
    exact Le.refl hO _

omit [Inhabited α] in
theorem mem_take_get [Inhabited α] {x : List α} {n : Nat} {t : α} (h : t ∈ x.take n) : ∃ i, i < n ∧ i < x.length ∧ t = x[i]! := by
  obtain ⟨i, hi, rfl⟩ := List.mem_iff_getElem.1 h
  rw [List.length_take] at hi
  refine ⟨i, by omega, by omega, ?_⟩
  rw [List.getElem_take, List.getElem!_eq_getElem?_getD, List.getElem?_eq_getElem (show i < x.length by omega)]; rfl
omit [Inhabited α] in
theorem mem_drop_get [Inhabited α] {x : List α} {n : Nat} {t : α} (h : t ∈ x.drop n) : ∃ i, n ≤ i ∧ i < x.length ∧ t = x[i]! := by
  obtain ⟨i, hi, rfl⟩ := List.mem_iff_getElem.1 h
  rw [List.length_drop] at hi
  refine ⟨n + i, by omega, by omega, ?_⟩
  rw [List.getElem_drop, List.getElem!_eq_getElem?_getD, List.getElem?_eq_getElem (show n + i < x.length by omega)]; rfl

/-- The cut of symMerge: what is ahead of it lies below what is behind it. -/
theorem cut_le (hO : SWO (ltOf cf)) {x y : List α} (hx : Srt cf x) (hy : Srt cf y) (s e : Nat) (hs : s ≤ x.length) (he : e ≤ y.length)
    (h1 : s = 0 ∨ e = y.length ∨ Le cf x[s - 1]! y[e]!) (h2 : s = x.length ∨ e = 0 ∨ Le cf y[e - 1]! x[s]!) :
    (∀ t ∈ x.take s, ∀ u ∈ y.drop e, Le cf t u) ∧ (∀ t ∈ y.take e, ∀ u ∈ x.drop s, Le cf t u) := by
  constructor
  · intro t ht u hu
    obtain ⟨i, hi, hi', rfl⟩ := mem_take_get ht
    obtain ⟨j, hj, hj', rfl⟩ := mem_drop_get hu
    rcases h1 with h | h | h
    · omega
    · omega
    · exact Le.trans hO (Le.trans hO (hx.at hO (show i ≤ s - 1 by omega) (by omega)) h) (hy.at hO hj hj')
  · intro t ht u hu
    obtain ⟨i, hi, hi', rfl⟩ := mem_take_get ht
    obtain ⟨j, hj, hj', rfl⟩ := mem_drop_get hu
    rcases h2 with h | h | h
    · omega
    · omega
    · exact Le.trans hO (Le.trans hO (hy.at hO (show i ≤ e - 1 by omega) (by omega)) h) (hx.at hO hj hj')

omit [Inhabited α] in
/-- The halves, each sorted, make the whole. -/
theorem halves {x1 x2 y1 y2 z1 z2 : List α} (hx : Srt cf (x1 ++ x2)) (hy : Srt cf (y1 ++ y2)) (h1 : ∀ t ∈ x1, ∀ u ∈ y2, Le cf t u) (h2 : ∀ t ∈ y1, ∀ u ∈ x2, Le cf t u)
    (s1 : Srt cf z1) (s2 : Srt cf z2) (p1 : z1.Perm (x1 ++ y1)) (p2 : z2.Perm (x2 ++ y2)) : Srt cf (z1 ++ z2) ∧ (z1 ++ z2).Perm ((x1 ++ x2) ++ (y1 ++ y2)) := by
  constructor
  · unfold Srt
    rw [List.pairwise_append]
    refine ⟨s1, s2, fun t ht u hu => ?_⟩
    rcases List.mem_append.1 (p1.mem_iff.1 ht) with a | a <;> rcases List.mem_append.1 (p2.mem_iff.1 hu) with b | b
    · exact (List.pairwise_append.1 hx).2.2 t a u b
    · exact h1 t a u b
    · exact h2 t a u b
    · exact (List.pairwise_append.1 hy).2.2 t a u b
  · refine (p1.append p2).trans ?_
    rw [List.append_assoc, List.append_assoc]
    refine List.Perm.append_left x1 ?_
    rw [← List.append_assoc, ← List.append_assoc]
    exact List.Perm.append_right y2 List.perm_append_comm

omit [Inhabited α] in
theorem srt_nil_left {x y : List α} (h : x = [] ∨ y = []) (hx : Srt cf x) (hy : Srt cf y) : Srt cf (x ++ y) := by
  rcases h with rfl | rfl
  · exact hy
  · rw [List.append_nil]; exact hx

theorem swp_back (p q r : List α) (s t : α) (i j : Nat) (hi : i = p.length + 1 + q.length) (hj : j = p.length) :
    swp (p ++ s :: (q ++ t :: r)).toArray i j = (p ++ t :: (q ++ s :: r)).toArray := by
  subst hi hj
  have e1 : (p ++ s :: (q ++ t :: r)).toArray[p.length]! = s := by simp
  have e2 : (p ++ s :: (q ++ t :: r)).toArray[p.length + 1 + q.length]! = t := by
    simp only [List.getElem!_toArray]
    rw [List.getElem!_eq_getElem?_getD, List.getElem?_append_right (by omega), show p.length + 1 + q.length - p.length = q.length + 1 by omega, List.getElem?_cons_succ, List.getElem?_append_right (by omega)]
    simp
  unfold swp
  rw [e1, e2]
  simp only [List.setIfInBounds_toArray]
  congr 1
  rw [List.set_append_right _ _ (show p.length ≤ p.length + 1 + q.length by omega), show p.length + 1 + q.length - p.length = q.length + 1 by omega, List.set_cons_succ, List.set_append_right _ _ (Nat.le_refl _), Nat.sub_self, List.set_cons_zero, List.set_append_right _ _ (Nat.le_refl _), Nat.sub_self, List.set_cons_zero]
end Go.Proofs.Ts
/- slices.insertionSortCmpFunc and symMergeCmpFunc's two short ways, at elements of three cells. Conditions: those that each theorem names. -/
set_option linter.unusedVariables false
set_option linter.unusedSimpArgs false
namespace Go.Proofs.Ts
open Go Go.Shelf Go.RowKit Go.Lib Go.Sort
variable {α : Type} [Inhabited α]

set_option maxHeartbeats 4000000 in
set_option maxRecDepth 1000000 in
theorem symOne_any (enc : α → List Value) (cf : α → α → Int) (hO : SWO (ltOf cf)) (g : Nat) (cb : Array Value) (eg : ∀ args w, (callFunc g args).run Tryz.prog w = .ok (.enter g args) w) (blk off cap N a m b : Nat) (d0 : Array α) (w0 w : World)
    (hcmp : CmpLays Tryz.prog g cb enc 3 cf blk off N w0) (k : Nat) (hk3 : 3 = k) (R : RowK enc k w0 blk off d0) (p y r l : List α) (e0 : α) (hl : l = p ++ [e0] ++ y ++ r) (hs : d0.size = N) (hN : l.length = N) (S : SWK enc k w0 blk off l.toArray w) (ha : p.length = a) (hm : a + 1 = m) (hb : m + y.length = b) (hsz : N < 4611686018427387904) (hy : Srt cf y) :
    Calls Tryz.prog 133 #[.slice (some ⟨blk, off, none⟩) N cap, .int .i64 a, .int .i64 m, .int .i64 b, .func (.func g) #[] cb] w fun e w' => e = .returned (.tuple #[]) ∧
      ∃ z : List α, SWK enc k w0 blk off (p ++ z ++ r).toArray w' ∧ Srt cf z ∧ z.Perm (e0 :: y) := by
  rw [hk3] at hcmp
  have mixed : Tryz.prog.follows .mixedOrders = true := by kernel_rfl
  have aE : ∀ w, (isAgg 59).run Tryz.prog w = .ok true w := fun w => by kernel_rfl
  have zE : ∀ w, (Go.sizeOf 59).run Tryz.prog w = .ok k w := by rw [← hk3]; exact fun w => by kernel_rfl
  have hnl : a + 1 + y.length + r.length = N := by rw [← hN, hl]; simp only [List.length_append, List.length_singleton]; omega
  have S0 : Aside (SWK enc k w0 blk off l.toArray w) := S
  have HL := Lib.hid hl
  have HS := Lib.hid hs
  have HA := Lib.hid ha
  have HN := Lib.hid hN
  have HC : Aside _ := hcmp
  have HY : Aside (Srt cf y) := hy
  have H3 := Lib.hid hk3
  clear S hl hs hN hcmp hy hk3
  obtain ⟨ny, hny⟩ : ∃ n, n = y.length := ⟨_, rfl⟩
  obtain ⟨nr, hnr⟩ : ∃ n, n = r.length := ⟨_, rfl⟩
  rw [← hny] at hb hnl
  rw [← hnr] at hnl
  have HNY := Lib.hid hny
  have HNR := Lib.hid hnr
  clear hny hnr ha
  obtain ⟨dk, hdk⟩ : ∃ dk, dk = l.toArray := ⟨_, rfl⟩
  have hds : dk.size = N := by rw [hdk, List.size_toArray]; exact HN.out
  rw [← hdk] at S0
  have HDK := Lib.hid hdk
  clear hdk
  have hm1 : (m : Int) - (a : Int) = 1 := by omega
  go_enter Tryz.func133, Tryz.ntmps133
  go_wp2
  go_loopg [10, 11] (b - m) (fun kx s10 s11 wr => ∃ (i j : Nat), s10 = .int .i64 i ∧ s11 = .int .i64 j ∧ m ≤ i ∧ i ≤ j ∧ j ≤ b ∧ j - i ≤ kx ∧
    Aside (SWK enc k w0 blk off dk wr) ∧ Aside ((i = m ∨ Le cf dk[i - 1]! dk[a]!) ∧ (j = b ∨ Le cf dk[a]! dk[j]!)))
  case atStart => exact ⟨m, b, rfl, rfl, by omega, by omega, by omega, by omega, S0, ⟨.inl rfl, .inl rfl⟩⟩
  case round =>
    clear S0
    obtain ⟨i, j, rfl, rfl, hi, hij, hj, hkx, S1, HE⟩ := hrel
    by_cases hlt : i < j
    · have hltz : (i : Int) < (j : Int) := by omega
      go_wp2_with fail
      obtain ⟨h, hh⟩ : ∃ h, h = (i + j) / 2 := ⟨_, rfl⟩
      have hz : ((i : Int) + (j : Int)) / 2 = (h : Int) := by omega
      rw [hz]
      have hih : i ≤ h := by omega
      have hhj : h < j := by omega
      clear hz hh
      have ea : ((h : Int)).toNat = h := by omega
      have pa : (0 : Int) ≤ (h : Int) := by omega
      have ba : (h : Int) < (N : Int) := by omega
      have ec : ((a : Int)).toNat = a := by omega
      have pc : (0 : Int) ≤ (a : Int) := by omega
      have bc : (a : Int) < (N : Int) := by omega
      obtain ⟨x1, hx1⟩ : ∃ x, x = dk[h]! := ⟨_, rfl⟩
      obtain ⟨x2, hx2⟩ : ∃ x, x = dk[a]! := ⟨_, rfl⟩
      have la := S1.out.ld R (by rw [HS.out]; exact hds) Tryz.prog h (by omega)
      have lb := S1.out.ld R (by rw [HS.out]; exact hds) Tryz.prog a (by omega)
      rw [← hx1] at la
      rw [← hx2] at lb
      have hc := S1.out.cmp HC.out hds x1 x2
      have HX := Lib.hid (show x1 = dk[h]! ∧ x2 = dk[a]! from ⟨hx1, hx2⟩)
      clear hx1 hx2
      by_cases hv : cf x1 x2 < 0
      · have hd : decide (cf x1 x2 < 0) = true := decide_eq_true hv
        have HV := Lib.hid hv
        go_wp2_with fail
        go_quiet_grown (first | (go_at_fn g; refine Calls.grown_of (hc _ _)))
        have S3 : Aside (SWK enc k w0 blk off dk (grow (wr.drewN nq) osq)) := S1.out.grown nq osq
        clear la lb hc S1
        generalize grow (wr.drewN nq) osq = w3 at S3 ⊢
        clear nq osq
        go_wp2
        go_roundg (j - (h + 1))
        case measure => omega
        case rel =>
          refine ⟨h + 1, j, by go_num, rfl, by omega, by omega, hj, Nat.le_refl _, S3, ?_, HE.out.2⟩
          right
          rw [Nat.add_sub_cancel, ← HX.out.1, ← HX.out.2]
          exact Le.of_lt hO HV.out
      · have hd : decide (cf x1 x2 < 0) = false := decide_eq_false hv
        have HV := Lib.hid hv
        go_wp2_with fail
        go_quiet_grown (first | (go_at_fn g; refine Calls.grown_of (hc _ _)))
        have S3 : Aside (SWK enc k w0 blk off dk (grow (wr.drewN nq) osq)) := S1.out.grown nq osq
        clear la lb hc S1
        generalize grow (wr.drewN nq) osq = w3 at S3 ⊢
        clear nq osq
        go_wp2
        go_roundg (h - i)
        case measure => omega
        case rel =>
          refine ⟨i, h, rfl, rfl, hi, by omega, by omega, Nat.le_refl _, S3, HE.out.1, ?_⟩
          right
          rw [← HX.out.1, ← HX.out.2]
          show ¬ cf x1 x2 < 0
          have := HV.out; omega
    · have hltz : ¬ (i : Int) < (j : Int) := by omega
      obtain rfl : i = j := by omega
      have S2 : Aside (∃ y1 s2, y1.length + a = a ∧ y1 ++ s2 = y ∧ SWK enc k w0 blk off (p ++ y1 ++ [e0] ++ s2 ++ r).toArray wr) := by
        refine ⟨[], y, by simp, rfl, ?_⟩
        rw [show p ++ [] ++ [e0] ++ y ++ r = l by rw [HL.out]; simp, ← HDK.out]
        exact S1.out
      clear S1
      have hle : a ≤ i - 1 := by omega
      go_wp2
      go_loopg [13] (i - 1 - a) (fun kx s13 wr => ∃ q : Nat, s13 = .int .i64 q ∧ a ≤ q ∧ q ≤ i - 1 ∧ i - 1 - q ≤ kx ∧ Aside (∃ y1 s2, y1.length + a = q ∧ y1 ++ s2 = y ∧ SWK enc k w0 blk off (p ++ y1 ++ [e0] ++ s2 ++ r).toArray wr))
      case atStart => exact ⟨a, rfl, Nat.le_refl _, hle, Nat.le_refl _, S2⟩
      case round =>
        clear S2
        obtain ⟨q, rfl, haq, hqi, hkx2, S3⟩ := hrel
        by_cases hq : q < i - 1
        · have hqz : (q : Int) < (i : Int) - 1 := by omega
          go_wp2_with fail
          obtain ⟨y1, s2, h1, h2, S4⟩ := S3.out
          cases s2 with
          | nil => exfalso; have := congrArg List.length h2; simp only [List.append_nil] at this; rw [← HNY.out] at this; omega
          | cons c s3 =>
          obtain ⟨dq, hdq⟩ : ∃ dq, dq = (p ++ y1 ++ [e0] ++ (c :: s3) ++ r).toArray := ⟨_, rfl⟩
          have hqs : dq.size = N := by
            have e2 := congrArg List.length h2
            rw [hdq, List.size_toArray]
            simp only [List.length_append, List.length_cons, List.length_nil] at e2 ⊢
            rw [← HNY.out] at e2; rw [← HNR.out, HA.out]; omega
          have hsw : swp dq q (q + 1) = (p ++ (y1 ++ [c]) ++ [e0] ++ s3 ++ r).toArray := by
            rw [hdq]
            have e3 := swp_list (p ++ y1) [] (s3 ++ r) e0 c q (q + 1) (by rw [List.length_append, HA.out]; omega) (by rw [List.length_append, HA.out]; simp; omega)
            simp only [List.nil_append] at e3
            rw [show p ++ y1 ++ [e0] ++ c :: s3 ++ r = p ++ y1 ++ e0 :: (c :: (s3 ++ r)) by simp, show p ++ (y1 ++ [c]) ++ [e0] ++ s3 ++ r = p ++ y1 ++ c :: (e0 :: (s3 ++ r)) by simp]
            exact e3
          rw [← hdq] at S4
          have S5 : Aside (SWK enc k w0 blk off dq wr) := S4
          have H12 := Lib.hid (show y1.length + a = q ∧ y1 ++ c :: s3 = y from ⟨h1, h2⟩)
          have HSW := Lib.hid hsw
          clear h1 h2 hdq hsw S4 S3
          have ea : ((q : Int)).toNat = q := by omega
          have pa : (0 : Int) ≤ (q : Int) := by omega
          have ba : (q : Int) < (N : Int) := by omega
          have ra : IntKind.i64.wrap ((q : Int)) = (q : Int) := by rw [IntKind.wrap_i64]; omega
          have ec : ((q : Int) + 1).toNat = q + 1 := by omega
          have pc : (0 : Int) ≤ (q : Int) + 1 := by omega
          have bc : (q : Int) + 1 < (N : Int) := by omega
          have rc : IntKind.i64.wrap ((q : Int) + 1) = (q : Int) + 1 := by rw [IntKind.wrap_i64]; omega
          have S6 : Aside (SWK enc k w0 blk off (swp dq q (q + 1)) ((wr.drew.setCells blk (off + q * k) (enc dq[q + 1]!)).setCells blk (off + (q + 1) * k) (enc dq[q]!))) := S5.out.swapped R q (q + 1) (by omega) (by omega)
          have l44a := S5.out.ld1 R (by rw [HS.out]; exact hqs) Tryz.prog q (by omega)
          have l44b := S5.out.ld1 R (by rw [HS.out]; exact hqs) Tryz.prog (q + 1) (by omega)
          have s44a := S5.out.st1 R (by rw [HS.out]; exact hqs) Tryz.prog q (by omega) dq[q + 1]!
          have s44b := S5.out.st2 R (by rw [HS.out]; exact hqs) Tryz.prog q (q + 1) (by omega) (by omega) dq[q + 1]! dq[q]!
          have n44a : (enc dq[q]!).length = k := R.hk _
          have n44b : (enc dq[q + 1]!).length = k := R.hk _
          generalize enc dq[q]! = cI44 at S6 l44a s44b n44a
          generalize enc dq[q + 1]! = cJ44 at S6 l44b s44a s44b n44b
          clear S5
          go_wp2_with fail
          go_big_region_o
          clear l44a l44b s44a s44b
          generalize (wr.drew.setCells blk (off + q * k) cJ44).setCells blk (off + (q + 1) * k) cI44 = w2 at S6 ⊢
          go_wp2
          go_roundg (i - 1 - (q + 1))
          case measure => omega
          case rel =>
            refine ⟨q + 1, by go_num, by omega, by omega, Nat.le_refl _, ⟨y1 ++ [c], s3, by rw [List.length_append, List.length_singleton]; have := H12.out.1; omega, by rw [List.append_assoc]; exact H12.out.2, ?_⟩⟩
            rw [← HSW.out]
            exact S6.out
        · have hqz : ¬ (q : Int) < (i : Int) - 1 := by omega
          go_wp2
          (try simp only [Exit.inBlock, Exit.then]); refine bodyPost_ret (results_none rfl _ _ _) rfl ?_
          obtain ⟨y1, s2, h1, h2, S4⟩ := S3.out
          refine ⟨rfl, y1 ++ e0 :: s2, by simpa using S4, ?_, by rw [← h2]; exact List.perm_middle⟩
          have hdl : dk = (p ++ [e0] ++ (y1 ++ s2) ++ r).toArray := by rw [HDK.out, HL.out, ← h2]
          have hae : dk[a]! = e0 := by rw [hdl, ← HA.out]; simp
          have hal : (p ++ [e0]).length = m := by rw [List.length_append, HA.out]; exact hm
          refine Srt.put hO (by rw [h2]; exact HY.out) (fun z s e => ?_) (fun s z e => ?_)
          · subst e
            rcases HE.out.1 with h | h
            · simp at h1; omega
            · rw [hae, hdl, List.getElem!_toArray] at h
              have : i - 1 = (p ++ [e0]).length + z.length := by rw [hal]; simp at h1; omega
              rw [this, get_at _ _ _ _ (by simp)] at h
              simpa [List.getElem!_eq_getElem?_getD] using h
          · subst e
            rcases HE.out.2 with h | h
            · have e2 := congrArg List.length h2; simp at e2; rw [← HNY.out] at e2; omega
            · rw [hae, hdl, List.getElem!_toArray] at h
              have : i = (p ++ [e0]).length + y1.length := by rw [hal]; omega
              rw [this, get_at _ _ _ _ (by simp)] at h
              simpa [List.getElem!_eq_getElem?_getD] using h
end Go.Proofs.Ts
/- symMerge's second short way: one element behind the cut. Conditions: those that each theorem names. -/
set_option linter.unusedVariables false
set_option linter.unusedSimpArgs false
namespace Go.Proofs.Ts
open Go Go.Shelf Go.RowKit Go.Lib Go.Sort
variable {α : Type} [Inhabited α]

set_option maxHeartbeats 4000000 in
set_option maxRecDepth 1000000 in
theorem symTwo_any (enc : α → List Value) (cf : α → α → Int) (hO : SWO (ltOf cf)) (g : Nat) (cb : Array Value) (eg : ∀ args w, (callFunc g args).run Tryz.prog w = .ok (.enter g args) w) (blk off cap N a m b : Nat) (d0 : Array α) (w0 w : World)
    (hcmp : CmpLays Tryz.prog g cb enc 3 cf blk off N w0) (k : Nat) (hk3 : 3 = k) (R : RowK enc k w0 blk off d0) (p x r l : List α) (e0 : α) (hl : l = p ++ x ++ [e0] ++ r) (hs : d0.size = N) (hN : l.length = N) (S : SWK enc k w0 blk off l.toArray w) (ha : p.length = a) (hm : a + x.length = m) (hb : m + 1 = b) (hx1 : x.length ≠ 1) (hsz : N < 4611686018427387904) (hy : Srt cf x) :
    Calls Tryz.prog 133 #[.slice (some ⟨blk, off, none⟩) N cap, .int .i64 a, .int .i64 m, .int .i64 b, .func (.func g) #[] cb] w fun e w' => e = .returned (.tuple #[]) ∧
      ∃ z : List α, SWK enc k w0 blk off (p ++ z ++ r).toArray w' ∧ Srt cf z ∧ z.Perm (e0 :: x) := by
  rw [hk3] at hcmp
  have mixed : Tryz.prog.follows .mixedOrders = true := by kernel_rfl
  have aE : ∀ w, (isAgg 59).run Tryz.prog w = .ok true w := fun w => by kernel_rfl
  have zE : ∀ w, (Go.sizeOf 59).run Tryz.prog w = .ok k w := by rw [← hk3]; exact fun w => by kernel_rfl
  have hnl : a + x.length + 1 + r.length = N := by rw [← hN, hl]; simp only [List.length_append, List.length_singleton]; omega
  have S0 : Aside (SWK enc k w0 blk off l.toArray w) := S
  have HL := Lib.hid hl
  have HS := Lib.hid hs
  have HA := Lib.hid ha
  have HN := Lib.hid hN
  have HC : Aside _ := hcmp
  have HY : Aside (Srt cf x) := hy
  have H3 := Lib.hid hk3
  clear S hl hs hN hcmp hy hk3
  obtain ⟨ny, hny⟩ : ∃ n, n = x.length := ⟨_, rfl⟩
  obtain ⟨nr, hnr⟩ : ∃ n, n = r.length := ⟨_, rfl⟩
  rw [← hny] at hm hnl hx1
  rw [← hnr] at hnl
  have HNY := Lib.hid hny
  have HNR := Lib.hid hnr
  clear hny hnr ha
  obtain ⟨dk, hdk⟩ : ∃ dk, dk = l.toArray := ⟨_, rfl⟩
  have hds : dk.size = N := by rw [hdk, List.size_toArray]; exact HN.out
  rw [← hdk] at S0
  have HDK := Lib.hid hdk
  clear hdk
  have hm1 : ¬ ((m : Int) - (a : Int) = 1) := by omega
  have hb1 : (b : Int) - (m : Int) = 1 := by omega
  have hm2 : ((m : Int) - (a : Int) == 1) = false := by rw [beq_eq_false_iff_ne]; exact hm1
  clear hx1
  go_enter Tryz.func133, Tryz.ntmps133
  go_wp2
  go_loopg [14, 15] (m - a) (fun kx s10 s11 wr => ∃ (i j : Nat), s10 = .int .i64 i ∧ s11 = .int .i64 j ∧ a ≤ i ∧ i ≤ j ∧ j ≤ m ∧ j - i ≤ kx ∧
    Aside (SWK enc k w0 blk off dk wr) ∧ Aside ((i = a ∨ Le cf dk[i - 1]! dk[m]!) ∧ (j = m ∨ Le cf dk[m]! dk[j]!)))
  case atStart => exact ⟨a, m, rfl, rfl, by omega, by omega, by omega, by omega, S0, ⟨.inl rfl, .inl rfl⟩⟩
  case round =>
    clear S0
    obtain ⟨i, j, rfl, rfl, hi, hij, hj, hkx, S1, HE⟩ := hrel
    by_cases hlt : i < j
    · have hltz : (i : Int) < (j : Int) := by omega
      go_wp2_with fail
      obtain ⟨h, hh⟩ : ∃ h, h = (i + j) / 2 := ⟨_, rfl⟩
      have hz : ((i : Int) + (j : Int)) / 2 = (h : Int) := by omega
      rw [hz]
      have hih : i ≤ h := by omega
      have hhj : h < j := by omega
      clear hz hh
      have ea : ((h : Int)).toNat = h := by omega
      have pa : (0 : Int) ≤ (h : Int) := by omega
      have ba : (h : Int) < (N : Int) := by omega
      have ec : ((m : Int)).toNat = m := by omega
      have pc : (0 : Int) ≤ (m : Int) := by omega
      have bc : (m : Int) < (N : Int) := by omega
      obtain ⟨x1, hx1⟩ : ∃ x, x = dk[m]! := ⟨_, rfl⟩
      obtain ⟨x2, hx2⟩ : ∃ x, x = dk[h]! := ⟨_, rfl⟩
      have la := S1.out.ld R (by rw [HS.out]; exact hds) Tryz.prog h (by omega)
      have lb := S1.out.ld R (by rw [HS.out]; exact hds) Tryz.prog m (by omega)
      rw [← hx2] at la
      rw [← hx1] at lb
      have hc := S1.out.cmp HC.out hds x1 x2
      have HX := Lib.hid (show x1 = dk[m]! ∧ x2 = dk[h]! from ⟨hx1, hx2⟩)
      clear hx1 hx2
      by_cases hv : cf x1 x2 < 0
      · have hd : decide (cf x1 x2 < 0) = true := decide_eq_true hv
        have HV := Lib.hid hv
        go_wp2_with fail
        go_quiet_grown (first | (go_at_fn g; refine Calls.grown_of (hc _ _)))
        have S3 : Aside (SWK enc k w0 blk off dk (grow (wr.drewN nq) osq)) := S1.out.grown nq osq
        clear la lb hc S1
        generalize grow (wr.drewN nq) osq = w3 at S3 ⊢
        clear nq osq
        go_wp2
        go_roundg (h - i)
        case measure => omega
        case rel =>
          refine ⟨i, h, rfl, rfl, hi, by omega, by omega, Nat.le_refl _, S3, HE.out.1, ?_⟩
          right
          rw [← HX.out.1, ← HX.out.2]
          exact Le.of_lt hO HV.out
      · have hd : decide (cf x1 x2 < 0) = false := decide_eq_false hv
        have HV := Lib.hid hv
        go_wp2_with fail
        go_quiet_grown (first | (go_at_fn g; refine Calls.grown_of (hc _ _)))
        have S3 : Aside (SWK enc k w0 blk off dk (grow (wr.drewN nq) osq)) := S1.out.grown nq osq
        clear la lb hc S1
        generalize grow (wr.drewN nq) osq = w3 at S3 ⊢
        clear nq osq
        go_wp2
        go_roundg (j - (h + 1))
        case measure => omega
        case rel =>
          refine ⟨h + 1, j, by go_num, rfl, by omega, by omega, hj, Nat.le_refl _, S3, ?_, HE.out.2⟩
          right
          rw [Nat.add_sub_cancel, ← HX.out.1, ← HX.out.2]
          show ¬ cf x1 x2 < 0
          have := HV.out; omega
    · have hltz : ¬ (i : Int) < (j : Int) := by omega
      obtain rfl : i = j := by omega
      have S2 : Aside (∃ y1 s2, y1.length + a = m ∧ y1 ++ s2 = x ∧ SWK enc k w0 blk off (p ++ y1 ++ [e0] ++ s2 ++ r).toArray wr) := by
        refine ⟨x, [], by rw [← HNY.out]; omega, by simp, ?_⟩
        rw [show p ++ x ++ [e0] ++ [] ++ r = l by rw [HL.out]; simp, ← HDK.out]
        exact S1.out
      clear S1
      go_wp2
      go_loopg [17] (m - i) (fun kx s17 wr => ∃ q : Nat, s17 = .int .i64 q ∧ i ≤ q ∧ q ≤ m ∧ q - i ≤ kx ∧ Aside (∃ y1 s2, y1.length + a = q ∧ y1 ++ s2 = x ∧ SWK enc k w0 blk off (p ++ y1 ++ [e0] ++ s2 ++ r).toArray wr))
      case atStart => exact ⟨m, rfl, by omega, Nat.le_refl _, Nat.le_refl _, S2⟩
      case round =>
        clear S2
        obtain ⟨qq, rfl, hqi, hqm, hkx2, S3⟩ := hrel
        by_cases hq : i < qq
        · obtain ⟨q, rfl⟩ : ∃ q, qq = q + 1 := ⟨qq - 1, by omega⟩
          have hqz : (i : Int) < (q : Int) + 1 := by omega
          go_wp2_with fail
          obtain ⟨y1, s2, h1, h2, S4⟩ := S3.out
          obtain ⟨y3, c, rfl⟩ : ∃ y3 c, y1 = y3 ++ [c] := ⟨y1.dropLast, y1.getLast (by rintro rfl; simp at h1; omega), (List.dropLast_concat_getLast _).symm⟩
          obtain ⟨dq, hdq⟩ : ∃ dq, dq = (p ++ (y3 ++ [c]) ++ [e0] ++ s2 ++ r).toArray := ⟨_, rfl⟩
          have hy3 : y3.length + a = q := by simp at h1; omega
          have hqs : dq.size = N := by
            have e2 := congrArg List.length h2
            rw [hdq, List.size_toArray]
            simp only [List.length_append, List.length_cons, List.length_nil] at e2 ⊢
            rw [← HNY.out] at e2; rw [← HNR.out, HA.out]; omega
          have hsw : swp dq (q + 1) q = (p ++ y3 ++ [e0] ++ (c :: s2) ++ r).toArray := by
            rw [hdq]
            have e3 := swp_back (p ++ y3) [] (s2 ++ r) c e0 (q + 1) q (by rw [List.length_append, HA.out]; simp; omega) (by rw [List.length_append, HA.out]; omega)
            simp only [List.nil_append] at e3
            rw [show p ++ (y3 ++ [c]) ++ [e0] ++ s2 ++ r = p ++ y3 ++ c :: (e0 :: (s2 ++ r)) by simp, show p ++ y3 ++ [e0] ++ (c :: s2) ++ r = p ++ y3 ++ e0 :: (c :: (s2 ++ r)) by simp]
            exact e3
          rw [← hdq] at S4
          have S5 : Aside (SWK enc k w0 blk off dq wr) := S4
          have H12 := Lib.hid (show y3.length + a = q ∧ y3 ++ [c] ++ s2 = x from ⟨hy3, h2⟩)
          have HSW := Lib.hid hsw
          clear h1 h2 hy3 hdq hsw S4 S3
          have ea : ((q : Int) + 1).toNat = q + 1 := by omega
          have pa : (0 : Int) ≤ (q : Int) + 1 := by omega
          have ba : (q : Int) + 1 < (N : Int) := by omega
          have ra : IntKind.i64.wrap ((q : Int) + 1) = (q : Int) + 1 := by rw [IntKind.wrap_i64]; omega
          have ec : ((q : Int)).toNat = q := by omega
          have pc : (0 : Int) ≤ (q : Int) := by omega
          have bc : (q : Int) < (N : Int) := by omega
          have rc : IntKind.i64.wrap ((q : Int)) = (q : Int) := by rw [IntKind.wrap_i64]; omega
          have S6 : Aside (SWK enc k w0 blk off (swp dq (q + 1) q) ((wr.drew.setCells blk (off + (q + 1) * k) (enc dq[q]!)).setCells blk (off + q * k) (enc dq[q + 1]!))) := S5.out.swapped R (q + 1) q (by omega) (by omega)
          have l44a := S5.out.ld1 R (by rw [HS.out]; exact hqs) Tryz.prog (q + 1) (by omega)
          have l44b := S5.out.ld1 R (by rw [HS.out]; exact hqs) Tryz.prog q (by omega)
          have s44a := S5.out.st1 R (by rw [HS.out]; exact hqs) Tryz.prog (q + 1) (by omega) dq[q]!
          have s44b := S5.out.st2 R (by rw [HS.out]; exact hqs) Tryz.prog (q + 1) q (by omega) (by omega) dq[q]! dq[q + 1]!
          have n44a : (enc dq[q + 1]!).length = k := R.hk _
          have n44b : (enc dq[q]!).length = k := R.hk _
          generalize enc dq[q + 1]! = cI44 at S6 l44a s44b n44a
          generalize enc dq[q]! = cJ44 at S6 l44b s44a s44b n44b
          clear S5
          go_wp2_with fail
          go_big_region_o
          clear l44a l44b s44a s44b
          generalize (wr.drew.setCells blk (off + (q + 1) * k) cJ44).setCells blk (off + q * k) cI44 = w2 at S6 ⊢
          go_wp2
          go_roundg (q - i)
          case measure => omega
          case rel =>
            refine ⟨q, by go_num, by omega, by omega, Nat.le_refl _, ⟨y3, c :: s2, H12.out.1, by rw [← H12.out.2]; simp, ?_⟩⟩
            rw [← HSW.out]
            exact S6.out
        · have hqz : ¬ (i : Int) < (qq : Int) := by omega
          obtain rfl : i = qq := by omega
          go_wp2
          (try simp only [Exit.inBlock, Exit.then]); refine bodyPost_ret (results_none rfl _ _ _) rfl ?_
          obtain ⟨y1, s2, h1, h2, S4⟩ := S3.out
          refine ⟨rfl, y1 ++ e0 :: s2, by simpa using S4, ?_, by rw [← h2]; exact List.perm_middle⟩
          have hdl : dk = (p ++ (y1 ++ s2) ++ (e0 :: r)).toArray := by rw [HDK.out, HL.out, ← h2]; simp
          have hme : dk[m]! = e0 := by
            rw [hdl, List.getElem!_toArray]
            have : m = (p ++ (y1 ++ s2)).length := by rw [List.length_append, HA.out, h2, ← HNY.out]; exact hm.symm
            rw [this]; simp
          refine Srt.put hO (by rw [h2]; exact HY.out) (fun z s e => ?_) (fun s z e => ?_)
          · subst e
            rcases HE.out.1 with h | h
            · simp at h1; omega
            · rw [hme, hdl, List.getElem!_toArray] at h
              have : i - 1 = p.length + z.length := by rw [HA.out]; simp at h1; omega
              rw [this, get_at _ _ _ _ (by simp)] at h
              simpa [List.getElem!_eq_getElem?_getD] using h
          · subst e
            rcases HE.out.2 with h | h
            · have e2 := congrArg List.length h2; simp at e2; rw [← HNY.out] at e2; omega
            · rw [hme, hdl, List.getElem!_toArray] at h
              have : i = p.length + y1.length := by rw [HA.out]; omega
              rw [this, get_at _ _ _ _ (by simp)] at h
              simpa [List.getElem!_eq_getElem?_getD] using h
end Go.Proofs.Ts
/- slices.symMergeCmpFunc at elements of three cells, whole. Conditions: those that each theorem names. -/
set_option linter.unusedVariables false
set_option linter.unusedSimpArgs false
namespace Go.Proofs.Ts
open Go Go.Shelf Go.RowKit Go.Lib Go.Sort
variable {α : Type} [Inhabited α]

/-- What symMerge's search starts from. -/
structure Span (a m b mid s0 r0 : Nat) : Prop where
  la : a ≤ s0
  sr : s0 ≤ r0
  rb : r0 ≤ m
  sb : mid + m ≤ s0 + b
  rm : r0 ≤ mid
  lo : s0 = a ∨ mid + m = s0 + b
  hi : r0 = m ∨ r0 = mid

set_option maxHeartbeats 8000000 in
set_option maxRecDepth 1000000 in
theorem symMerge_any (enc : α → List Value) (cf : α → α → Int) (hO : SWO (ltOf cf)) (g : Nat) (cb : Array Value) (eg : ∀ args w, (callFunc g args).run Tryz.prog w = .ok (.enter g args) w) (blk off cap N : Nat) (d0 : Array α) (w0 : World)
    (hcmp : CmpLays Tryz.prog g cb enc 3 cf blk off N w0) (k : Nat) (hk3 : 3 = k) (R : RowK enc k w0 blk off d0) (hs : d0.size = N) (hsz : N < 4611686018427387904) :
    ∀ (F a m b : Nat) (p x y r l : List α) (w : World), x.length + y.length ≤ F → l = p ++ x ++ y ++ r → l.length = N → SWK enc k w0 blk off l.toArray w → p.length = a → a + x.length = m → m + y.length = b → 0 < x.length → 0 < y.length → Srt cf x → Srt cf y →
    Calls Tryz.prog 133 #[.slice (some ⟨blk, off, none⟩) N cap, .int .i64 a, .int .i64 m, .int .i64 b, .func (.func g) #[] cb] w fun e w' => e = .returned (.tuple #[]) ∧
      ∃ z : List α, SWK enc k w0 blk off (p ++ z ++ r).toArray w' ∧ Srt cf z ∧ z.Perm (x ++ y) := by
  have mixed : Tryz.prog.follows .mixedOrders = true := by kernel_rfl
  have aE : ∀ w, (isAgg 59).run Tryz.prog w = .ok true w := fun w => by kernel_rfl
  have zE : ∀ w, (Go.sizeOf 59).run Tryz.prog w = .ok k w := by rw [← hk3]; exact fun w => by kernel_rfl
  intro F
  induction F with
  | zero => intro a m b p x y r l w h _ _ _ _ _ _ hx; omega
  | succ F ih =>
  intro a m b p x y r l w hF hl hN S ha hm hb hx hy sx sy
  by_cases hx1 : x.length = 1
  · obtain ⟨e0, rfl⟩ := List.length_eq_one_iff.1 hx1
    exact symOne_any enc cf hO g cb eg blk off cap N a m b d0 w0 w hcmp k hk3 R p y r l e0 hl hs hN S ha (by simpa using hm) hb hsz sy
  by_cases hy1 : y.length = 1
  · obtain ⟨e0, rfl⟩ := List.length_eq_one_iff.1 hy1
    refine (symTwo_any enc cf hO g cb eg blk off cap N a m b d0 w0 w hcmp k hk3 R p x r l e0 hl hs hN S ha hm (by simpa using hb) hx1 hsz sx).mono ?_
    rintro e w' ⟨he, z, h1, h2, h3⟩
    exact ⟨he, z, h1, h2, h3.trans (List.perm_append_comm (l₁ := [e0]) (l₂ := x))⟩
  have hnl : a + x.length + y.length + r.length = N := by rw [← hN, hl]; simp only [List.length_append]; omega
  have S0 : Aside (SWK enc k w0 blk off l.toArray w) := S
  have HL := Lib.hid hl
  have HS := Lib.hid hs
  have HA := Lib.hid ha
  have HN := Lib.hid hN
  have HC : Aside (CmpLays Tryz.prog g cb enc k cf blk off N w0) := by rw [hk3] at hcmp; exact hcmp
  have HC3 : Aside (CmpLays Tryz.prog g cb enc 3 cf blk off N w0) := hcmp
  have HSX : Aside (Srt cf x ∧ Srt cf y) := ⟨sx, sy⟩
  have H3 := Lib.hid hk3
  have IH : Aside _ := ih
  clear S hl hs hN hcmp sx sy hk3 ih
  obtain ⟨nx, hnx⟩ : ∃ n, n = x.length := ⟨_, rfl⟩
  obtain ⟨ny, hny⟩ : ∃ n, n = y.length := ⟨_, rfl⟩
  obtain ⟨nr, hnr⟩ : ∃ n, n = r.length := ⟨_, rfl⟩
  rw [← hnx] at hF hm hx hx1 hnl
  rw [← hny] at hF hb hy hy1 hnl
  rw [← hnr] at hnl
  have HNX := Lib.hid hnx
  have HNY := Lib.hid hny
  have HNR := Lib.hid hnr
  clear hnx hny hnr ha
  obtain ⟨dk, hdk⟩ : ∃ dk, dk = l.toArray := ⟨_, rfl⟩
  have hds : dk.size = N := by rw [hdk, List.size_toArray]; exact HN.out
  rw [← hdk] at S0
  have HDK := Lib.hid hdk
  clear hdk
  have hm2 : ((m : Int) - (a : Int) == 1) = false := by rw [beq_eq_false_iff_ne]; omega
  have hb2 : ((b : Int) - (m : Int) == 1) = false := by rw [beq_eq_false_iff_ne]; omega
  obtain ⟨mid, hmid⟩ : ∃ mid, mid = (a + b) / 2 := ⟨_, rfl⟩
  have hmz : ((a : Int) + (b : Int)) / 2 = (mid : Int) := by omega
  have ham : a + 2 ≤ m := by omega
  have hmb : m + 2 ≤ b := by omega
  have hmid1 : 2 * mid ≤ a + b := by omega
  have hmid2 : a + b ≤ 2 * mid + 1 := by omega
  have hbN : b ≤ N := by omega
  have HM := Lib.hid hm
  have HB := Lib.hid hb
  clear hmid hm hb hx1 hy1
  go_enter Tryz.func133, Tryz.ntmps133
  go_upto_if 140 with fail
  go_cut [20, 21] (fun s20 s21 wy => ∃ s0 r0 : Nat, s20 = .int .i64 s0 ∧ s21 = .int .i64 r0 ∧ Span a m b mid s0 r0 ∧ wy = w)
  case first =>
    as_aux_lemma =>
      by_cases hmm : mid < m
      · have hmmz : (mid : Int) < (m : Int) := by omega
        go_wp2_with fail
        go_meet
        case rel => exact ⟨mid + m - b, mid, by go_num, rfl, ⟨by omega, by omega, by omega, by omega, by omega, by omega, by omega⟩, rfl⟩
      · have hmmz : ¬ (mid : Int) < (m : Int) := by omega
        go_wp2_with fail
        go_meet
        case rel => exact ⟨a, m, rfl, rfl, ⟨by omega, by omega, by omega, by omega, by omega, by omega, by omega⟩, rfl⟩
  case rest =>
  as_aux_lemma =>
  obtain ⟨s0, r0, rfl, rfl, hsp, rfl⟩ := hcut
  obtain ⟨la, sr, rb, sb, rm, lo, hi⟩ := hsp
  have HLO := Lib.hid lo
  have HHI := Lib.hid hi
  clear lo hi
  obtain ⟨n, hn⟩ : ∃ n, n = mid + m := ⟨_, rfl⟩
  have hnz : (mid : Int) + (m : Int) = (n : Int) := by omega
  rw [hnz]
  rw [← hn] at sb
  have hrn : r0 + m ≤ n := by omega
  have HNM := Lib.hid hn
  clear hnz hn
  go_wp2
  go_loopg [20, 21] (r0 - s0) (fun kx s20 s21 wr => ∃ (i j : Nat), s20 = .int .i64 i ∧ s21 = .int .i64 j ∧ s0 ≤ i ∧ i ≤ j ∧ j ≤ r0 ∧ j - i ≤ kx ∧
    Aside (SWK enc k w0 blk off dk wr) ∧ Aside ((i = s0 ∨ Le cf dk[i - 1]! dk[n - i]!) ∧ (j = r0 ∨ Le cf dk[n - 1 - j]! dk[j]!)))
  case atStart => exact ⟨s0, r0, rfl, rfl, by omega, by omega, by omega, by omega, S0, ⟨.inl rfl, .inl rfl⟩⟩
  case round =>
    as_aux_lemma =>
    clear S0
    obtain ⟨i, j, rfl, rfl, hi, hij, hj, hkx, S1, HE⟩ := hrel
    by_cases hlt : i < j
    · as_aux_lemma =>
      have hltz : (i : Int) < (j : Int) := by omega
      go_wp2_with fail
      obtain ⟨h, hh⟩ : ∃ h, h = (i + j) / 2 := ⟨_, rfl⟩
      have hz : ((i : Int) + (j : Int)) / 2 = (h : Int) := by omega
      rw [hz]
      have hih : i ≤ h := by omega
      have hhj : h < j := by omega
      clear hz hh
      obtain ⟨c, hc0⟩ : ∃ c, c = n - 1 - h := ⟨_, rfl⟩
      have hcz : (n : Int) - 1 - (h : Int) = (c : Int) := by omega
      have hcN : c < N := by omega
      have HCE := Lib.hid hc0
      clear hc0
      have ea : ((h : Int)).toNat = h := by omega
      have pa : (0 : Int) ≤ (h : Int) := by omega
      have ba : (h : Int) < (N : Int) := by omega
      have ec : ((n : Int) - 1 - (h : Int)).toNat = c := by omega
      have pc : (0 : Int) ≤ (n : Int) - 1 - (h : Int) := by omega
      have bc : (n : Int) - 1 - (h : Int) < (N : Int) := by omega
      have rc : IntKind.i64.wrap ((n : Int) - 1 - (h : Int)) = (n : Int) - 1 - (h : Int) := by rw [IntKind.wrap_i64]; omega
      have pc2 : (h : Int) ≤ (n : Int) - 1 := by omega
      clear hcz
      obtain ⟨x1, hx1⟩ : ∃ x, x = dk[c]! := ⟨_, rfl⟩
      obtain ⟨x2, hx2⟩ : ∃ x, x = dk[h]! := ⟨_, rfl⟩
      have la1 := S1.out.ld R (by rw [HS.out]; exact hds) Tryz.prog h (by omega)
      have lb1 := S1.out.ld R (by rw [HS.out]; exact hds) Tryz.prog c (by omega)
      rw [← hx2] at la1
      rw [← hx1] at lb1
      have hc := S1.out.cmp HC.out hds x1 x2
      have HX := Lib.hid (show x1 = dk[c]! ∧ x2 = dk[h]! from ⟨hx1, hx2⟩)
      clear hx1 hx2
      by_cases hv : cf x1 x2 < 0
      · as_aux_lemma =>
        have hd : decide (cf x1 x2 < 0) = true := decide_eq_true hv
        have HV := Lib.hid hv
        go_wp2_with fail
        go_quiet_grown (first | (go_at_fn g; refine Calls.grown_of (hc _ _)))
        have S3 : Aside (SWK enc k w0 blk off dk (grow (wr.drewN nq) osq)) := S1.out.grown nq osq
        clear la1 lb1 hc S1
        generalize grow (wr.drewN nq) osq = w3 at S3 ⊢
        clear nq osq
        go_wp2
        go_roundg (h - i)
        case measure => omega
        case rel =>
          refine ⟨i, h, rfl, rfl, hi, by omega, by omega, Nat.le_refl _, S3, HE.out.1, ?_⟩
          right
          rw [← HCE.out, ← HX.out.1, ← HX.out.2]
          exact Le.of_lt hO HV.out
      · as_aux_lemma =>
        have hd : decide (cf x1 x2 < 0) = false := decide_eq_false hv
        have HV := Lib.hid hv
        go_wp2_with fail
        go_quiet_grown (first | (go_at_fn g; refine Calls.grown_of (hc _ _)))
        have S3 : Aside (SWK enc k w0 blk off dk (grow (wr.drewN nq) osq)) := S1.out.grown nq osq
        clear la1 lb1 hc S1
        generalize grow (wr.drewN nq) osq = w3 at S3 ⊢
        clear nq osq
        go_wp2
        go_roundg (j - (h + 1))
        case measure => omega
        case rel =>
          refine ⟨h + 1, j, by go_num, rfl, by omega, by omega, hj, Nat.le_refl _, S3, ?_, HE.out.2⟩
          right
          rw [Nat.add_sub_cancel, show n - (h + 1) = n - 1 - h by omega, ← HCE.out, ← HX.out.1, ← HX.out.2]
          show ¬ cf x1 x2 < 0
          have := HV.out; omega
    · as_aux_lemma =>
      have hltz : ¬ (i : Int) < (j : Int) := by omega
      obtain rfl : i = j := by omega
      obtain ⟨e, he⟩ : ∃ e, e = n - i := ⟨_, rfl⟩
      have hez : (n : Int) - (i : Int) = (e : Int) := by omega
      have hme : m ≤ e := by omega
      have heb : e ≤ b := by omega
      obtain ⟨x1, x2, y1, y2, ex, ey, l1, l2, l3, l4, q1, q2⟩ : ∃ x1 x2 y1 y2 : List α, x1 ++ x2 = x ∧ y1 ++ y2 = y ∧ a + x1.length = i ∧ i + x2.length = m ∧ m + y1.length = e ∧ e + y2.length = b ∧ (∀ t ∈ x1, ∀ u ∈ y2, Le cf t u) ∧ (∀ t ∈ y1, ∀ u ∈ x2, Le cf t u) := by
        have hmx : x.length = m - a := by rw [← HNX.out]; have := HM.out; omega
        have hby : y.length = b - m := by rw [← HNY.out]; have := HB.out; omega
        have gx : ∀ t, t < x.length → dk[a + t]! = x[t]! := fun t ht => by
          rw [HDK.out, List.getElem!_toArray, HL.out, show p ++ x ++ y ++ r = p ++ x ++ (y ++ r) by simp, ← HA.out, get_at _ _ _ _ ht]
        have gy : ∀ t, t < y.length → dk[m + t]! = y[t]! := fun t ht => by
          rw [HDK.out, List.getElem!_toArray, HL.out, show m = (p ++ x).length by rw [List.length_append, HA.out, ← HNX.out]; exact HM.out.symm, get_at _ _ _ _ ht]
        have hcut := cut_le hO HSX.out.1 HSX.out.2 (i - a) (e - m) (by omega) (by omega)
          (by
            rcases HE.out.1 with h | h
            · rcases HLO.out with h' | h'
              · left; omega
              · right; left; have := HNM.out; omega
            · by_cases h1 : i = a
              · left; omega
              by_cases h2 : e = b
              · right; left; omega
              right; right
              rw [← gx _ (by omega), ← gy _ (by omega), show a + (i - a - 1) = i - 1 by omega, show m + (e - m) = n - i by omega]
              exact h)
          (by
            rcases HE.out.2 with h | h
            · rcases HHI.out with h' | h'
              · left; omega
              · right; left; have := HNM.out; omega
            · by_cases h1 : i = m
              · left; omega
              by_cases h2 : e = m
              · right; left; omega
              right; right
              rw [← gx _ (by omega), ← gy _ (by omega), show a + (i - a) = i by omega, show m + (e - m - 1) = n - 1 - i by omega]
              exact h)
        exact ⟨x.take (i - a), x.drop (i - a), y.take (e - m), y.drop (e - m), List.take_append_drop _ _, List.take_append_drop _ _, by rw [List.length_take]; omega, by rw [List.length_drop]; omega, by rw [List.length_take]; omega, by rw [List.length_drop]; omega, hcut.1, hcut.2⟩
      have hei : e + i = mid + m := by have := HNM.out; omega
      have S2 : Aside (SWK enc k w0 blk off (p ++ x1 ++ x2 ++ y1 ++ (y2 ++ r)).toArray wr) := by
        have : p ++ x1 ++ x2 ++ y1 ++ (y2 ++ r) = l := by rw [HL.out, ← ex, ← ey]; simp
        rw [this, ← HDK.out]; exact S1.out
      have HLEN : Hid ((p ++ x1).length = i ∧ p.length = a ∧ nr = r.length) := Lib.hid ⟨by rw [List.length_append, HA.out]; exact l1, HA.out, HNR.out⟩
      obtain ⟨n1, hn1⟩ : ∃ n, n = x1.length := ⟨_, rfl⟩
      obtain ⟨n2, hn2⟩ : ∃ n, n = x2.length := ⟨_, rfl⟩
      obtain ⟨n3, hn3⟩ : ∃ n, n = y1.length := ⟨_, rfl⟩
      obtain ⟨n4, hn4⟩ : ∃ n, n = y2.length := ⟨_, rfl⟩
      rw [← hn1] at l1
      rw [← hn2] at l2
      rw [← hn3] at l3
      rw [← hn4] at l4
      have LL := Lib.hid (show (n1 = x1.length ∧ n2 = x2.length ∧ n3 = y1.length ∧ n4 = y2.length) ∧ a + n1 = i ∧ i + n2 = m ∧ m + n3 = e ∧ e + n4 = b from ⟨⟨hn1, hn2, hn3, hn4⟩, l1, l2, l3, l4⟩)
      have HQ : Aside ((∀ t ∈ x1, ∀ u ∈ y2, Le cf t u) ∧ (∀ t ∈ y1, ∀ u ∈ x2, Le cf t u) ∧ x1 ++ x2 = x ∧ y1 ++ y2 = y) := ⟨q1, q2, ex, ey⟩
      have HNIN := Lib.hid (show n = mid + m from HNM.out)
      have hai : a ≤ i := by omega
      have him : i ≤ m := by omega
      have hNb : b + nr = N := by have := HM.out; have := HB.out; omega
      clear he hn1 hn2 hn3 hn4 l1 l2 l3 l4 q1 q2 ex ey S1 HE hltz hlt
      go_upto_region 39 with fail
      clear hez HNM
      go_cut [185] (fun t wy => t = .bool (decide (i < m ∧ m < e)) ∧ wr = wy)
      case first =>
        as_aux_lemma =>
          by_cases h1 : i < m
          · have h1z : (i : Int) < (m : Int) := by omega
            by_cases h2 : m < e
            · have h2z : (m : Int) < (e : Int) := by omega
              go_wp2_with fail
              go_meet
              case rel => exact ⟨congrArg Value.bool (decide_eq_true ⟨h1, h2⟩).symm, rfl⟩
            · have h2z : ¬ (m : Int) < (e : Int) := by omega
              go_wp2_with fail
              go_meet
              case rel => exact ⟨congrArg Value.bool (decide_eq_false (fun h => h2 h.2)).symm, rfl⟩
          · have h1z : ¬ (i : Int) < (m : Int) := by omega
            go_wp2_with fail
            go_meet
            case rel => exact ⟨congrArg Value.bool (decide_eq_false (fun h => h1 h.1)).symm, rfl⟩
      case rest =>
      as_aux_lemma =>
      obtain ⟨rfl, rfl⟩ := hcut
      go_upto_if 185 with fail
      go_cut [] (fun wy => Aside (SWK enc k w0 blk off (p ++ (x1 ++ y1) ++ (x2 ++ y2) ++ r).toArray wy))
      case first =>
        as_aux_lemma =>
          by_cases hb : i < m ∧ m < e
          · rw [decide_eq_true hb]
            have HBB := Lib.hid hb
            clear hb
            go_wp2_with fail
            obtain ⟨⟨k1, k2, k3, k4⟩, j1, j2, j3, j4⟩ := LL.out
            refine (rotate_any enc g cb blk off cap N i m e d0 w0 wr k H3.out R (p ++ x1) x2 y1 (y2 ++ r) (p ++ x1 ++ x2 ++ y1 ++ (y2 ++ r)) (by simp) HS.out ?_ S2.out HLEN.out.1 (by rw [← k2]; exact j2) (by rw [← k3]; exact j3) (by have := HBB.out; omega) (by have := HBB.out; omega) hsz).mono ?_
            · simp only [List.length_append]; rw [← k1, ← k2, ← k3, ← k4, HLEN.out.2.1, ← HLEN.out.2.2]; omega
            clear k1 k2 k3 k4 j1 j2 j3 j4
            rintro e' w2 ⟨rfl, S3⟩
            have S4 : Aside (SWK enc k w0 blk off (p ++ (x1 ++ y1) ++ (x2 ++ y2) ++ r).toArray w2) := by
              have : p ++ x1 ++ y1 ++ x2 ++ (y2 ++ r) = p ++ (x1 ++ y1) ++ (x2 ++ y2) ++ r := by simp
              rw [← this]; exact S3
            clear S3 S2
            go_wp2_with fail
            go_meet
            case rel => exact S4
          · rw [decide_eq_false hb]
            have HBB := Lib.hid hb
            clear hb
            go_wp2_with fail
            go_meet
            case rel =>
              obtain ⟨⟨k1, k2, k3, k4⟩, j1, j2, j3, j4⟩ := LL.out
              have he : x2 = [] ∨ y1 = [] := by
                rcases Nat.lt_or_ge i m with h | h
                · right; have : ¬ m < e := fun h2 => HBB.out ⟨h, h2⟩
                  exact List.length_eq_zero_iff.1 (by omega)
                · left; exact List.length_eq_zero_iff.1 (by omega)
              have : p ++ x1 ++ x2 ++ y1 ++ (y2 ++ r) = p ++ (x1 ++ y1) ++ (x2 ++ y2) ++ r := by rcases he with rfl | rfl <;> simp
              rw [← this]; exact S2
      case rest =>
      as_aux_lemma =>
      have S3 : Aside _ := hcut
      clear hcut S2
      go_upto_region 41 with fail
      go_cut [199] (fun t wy => t = .bool (decide (a < i ∧ i < mid)) ∧ wc = wy)
      case first =>
        as_aux_lemma =>
          by_cases h1 : a < i
          · have h1z : (a : Int) < (i : Int) := by omega
            by_cases h2 : i < mid
            · have h2z : (i : Int) < (mid : Int) := by omega
              go_wp2_with fail
              go_meet
              case rel => exact ⟨congrArg Value.bool (decide_eq_true ⟨h1, h2⟩).symm, rfl⟩
            · have h2z : ¬ (i : Int) < (mid : Int) := by omega
              go_wp2_with fail
              go_meet
              case rel => exact ⟨congrArg Value.bool (decide_eq_false (fun h => h2 h.2)).symm, rfl⟩
          · have h1z : ¬ (a : Int) < (i : Int) := by omega
            go_wp2_with fail
            go_meet
            case rel => exact ⟨congrArg Value.bool (decide_eq_false (fun h => h1 h.1)).symm, rfl⟩
      case rest =>
      as_aux_lemma =>
      obtain ⟨rfl, rfl⟩ := hcut
      go_upto_if 199 with fail
      go_cut [] (fun wy => Aside (∃ z1 : List α, SWK enc k w0 blk off (p ++ z1 ++ (x2 ++ y2) ++ r).toArray wy ∧ Srt cf z1 ∧ z1.Perm (x1 ++ y1)))
      case first =>
        as_aux_lemma =>
          have HSO : Aside (Srt cf (x1 ++ x2) ∧ Srt cf (y1 ++ y2)) := by rw [HQ.out.2.2.1, HQ.out.2.2.2]; exact HSX.out
          by_cases hb : a < i ∧ i < mid
          · rw [decide_eq_true hb]
            have HBB := Lib.hid hb
            clear hb
            go_wp2_with fail
            obtain ⟨⟨k1, k2, k3, k4⟩, j1, j2, j3, j4⟩ := LL.out
            have hlen : (p ++ x1 ++ y1 ++ (x2 ++ y2 ++ r)).length = N := by simp only [List.length_append]; rw [← k1, ← k2, ← k3, ← k4, HLEN.out.2.1, ← HLEN.out.2.2]; omega
            refine (IH.out a i mid p x1 y1 (x2 ++ y2 ++ r) (p ++ x1 ++ y1 ++ (x2 ++ y2 ++ r)) _ (by rw [← k1, ← k3]; omega) rfl hlen ?_ HLEN.out.2.1 (by rw [← k1]; exact j1) (by rw [← k3]; omega) (by have := HBB.out; omega) (by have := HBB.out; omega) (List.pairwise_append.1 HSO.out.1).1 (List.pairwise_append.1 HSO.out.2).1).mono ?_
            · have : p ++ x1 ++ y1 ++ (x2 ++ y2 ++ r) = p ++ (x1 ++ y1) ++ (x2 ++ y2) ++ r := by simp
              rw [this]; exact S3.out
            clear k1 k2 k3 k4 j1 j2 j3 j4 hlen
            rintro e' w2 ⟨rfl, z1, S4, S5, S6⟩
            have S7 : Aside (∃ z1 : List α, SWK enc k w0 blk off (p ++ z1 ++ (x2 ++ y2) ++ r).toArray w2 ∧ Srt cf z1 ∧ z1.Perm (x1 ++ y1)) := ⟨z1, by simpa using S4, S5, S6⟩
            clear S4 S5 S6 S3
            go_wp2_with fail
            go_meet
            case rel => exact S7
          · rw [decide_eq_false hb]
            have HBB := Lib.hid hb
            clear hb
            go_wp2_with fail
            go_meet
            case rel =>
              obtain ⟨⟨k1, k2, k3, k4⟩, j1, j2, j3, j4⟩ := LL.out
              have he : x1 = [] ∨ y1 = [] := by
                rcases Nat.lt_or_ge a i with h | h
                · right; have : ¬ i < mid := fun h2 => HBB.out ⟨h, h2⟩
                  exact List.length_eq_zero_iff.1 (by omega)
                · left; exact List.length_eq_zero_iff.1 (by omega)
              exact ⟨x1 ++ y1, S3.out, srt_nil_left he (List.pairwise_append.1 HSO.out.1).1 (List.pairwise_append.1 HSO.out.2).1, List.Perm.refl _⟩
      case rest =>
      as_aux_lemma =>
      have S4 : Aside _ := hcut
      clear hcut S3
      go_upto_region 43 with fail
      go_cut [213] (fun t wy => t = .bool (decide (mid < e ∧ e < b)) ∧ wc = wy)
      case first =>
        as_aux_lemma =>
          by_cases h1 : mid < e
          · have h1z : (mid : Int) < (e : Int) := by omega
            by_cases h2 : e < b
            · have h2z : (e : Int) < (b : Int) := by omega
              go_wp2_with fail
              go_meet
              case rel => exact ⟨congrArg Value.bool (decide_eq_true ⟨h1, h2⟩).symm, rfl⟩
            · have h2z : ¬ (e : Int) < (b : Int) := by omega
              go_wp2_with fail
              go_meet
              case rel => exact ⟨congrArg Value.bool (decide_eq_false (fun h => h2 h.2)).symm, rfl⟩
          · have h1z : ¬ (mid : Int) < (e : Int) := by omega
            go_wp2_with fail
            go_meet
            case rel => exact ⟨congrArg Value.bool (decide_eq_false (fun h => h1 h.1)).symm, rfl⟩
      case rest =>
      as_aux_lemma =>
      obtain ⟨rfl, rfl⟩ := hcut
      have HSO : Aside (Srt cf (x1 ++ x2) ∧ Srt cf (y1 ++ y2)) := by rw [HQ.out.2.2.1, HQ.out.2.2.2]; exact HSX.out
      have FIN : ∀ (w' : World) (z1 z2 : List α), SWK enc k w0 blk off (p ++ z1 ++ z2 ++ r).toArray w' → Srt cf z1 → z1.Perm (x1 ++ y1) → Srt cf z2 → z2.Perm (x2 ++ y2) → ∃ z, SWK enc k w0 blk off (p ++ z ++ r).toArray w' ∧ Srt cf z ∧ z.Perm (x ++ y) := fun w' z1 z2 g1 g2 g3 g4 g5 => by
        obtain ⟨h1, h2⟩ := halves HSO.out.1 HSO.out.2 HQ.out.1 HQ.out.2.1 g2 g4 g3 g5
        rw [HQ.out.2.2.1, HQ.out.2.2.2] at h2
        exact ⟨z1 ++ z2, by simpa using g1, h1, h2⟩
      have FIN' : Aside _ := FIN
      clear FIN
      by_cases hb : mid < e ∧ e < b
      · as_aux_lemma =>
        rw [decide_eq_true hb]
        have HBB := Lib.hid hb
        clear hb
        go_wp2_with fail
        obtain ⟨z1, g1, g2, g3⟩ := S4.out
        obtain ⟨⟨k1, k2, k3, k4⟩, j1, j2, j3, j4⟩ := LL.out
        have hz1 : z1.length = n1 + n3 := by rw [g3.length_eq, List.length_append, ← k1, ← k3]
        have hlen : (p ++ z1 ++ x2 ++ y2 ++ r).length = N := by simp only [List.length_append]; rw [hz1, ← k2, ← k4, HLEN.out.2.1, ← HLEN.out.2.2]; omega
        refine (IH.out mid e b (p ++ z1) x2 y2 r (p ++ z1 ++ x2 ++ y2 ++ r) _ (by rw [← k2, ← k4]; omega) rfl hlen (by simpa using g1) (by rw [List.length_append, hz1, HLEN.out.2.1]; omega) (by rw [← k2]; omega) (by rw [← k4]; exact j4) (by have := HBB.out; omega) (by have := HBB.out; omega) (List.pairwise_append.1 HSO.out.1).2.1 (List.pairwise_append.1 HSO.out.2).2.1).mono ?_
        clear k1 k2 k3 k4 j1 j2 j3 j4 hlen hz1
        rintro e' w2 ⟨rfl, z2, S5, S6, S7⟩
        have S8 : Aside _ := FIN'.out w2 z1 z2 S5 g2 g3 S6 S7
        clear S5 S6 S7 g1 g2 g3 S4
        go_wp2_with fail
        go_end0
        exact ⟨rfl, S8.out⟩
      · as_aux_lemma =>
        rw [decide_eq_false hb]
        have HBB := Lib.hid hb
        clear hb
        go_wp2_with fail
        go_end0
        obtain ⟨z1, g1, g2, g3⟩ := S4.out
        obtain ⟨⟨k1, k2, k3, k4⟩, j1, j2, j3, j4⟩ := LL.out
        have he : x2 = [] ∨ y2 = [] := by
          rcases Nat.lt_or_ge mid e with h | h
          · right; have : ¬ e < b := fun h2 => HBB.out ⟨h, h2⟩
            exact List.length_eq_zero_iff.1 (by omega)
          · left; exact List.length_eq_zero_iff.1 (by omega)
        exact ⟨rfl, FIN'.out _ z1 (x2 ++ y2) g1 g2 g3 (srt_nil_left he (List.pairwise_append.1 HSO.out.1).2.1 (List.pairwise_append.1 HSO.out.2).2.1) (List.Perm.refl _)⟩
end Go.Proofs.Ts
/- slices.insertionSortCmpFunc at elements of three cells, on lists. Conditions: those that each theorem names. -/
set_option linter.unusedVariables false
set_option linter.unusedSimpArgs false
namespace Go.Proofs.Ts
open Go Go.Shelf Go.RowKit Go.Lib Go.Sort
variable {α : Type} [Inhabited α]

set_option maxHeartbeats 4000000 in
set_option maxRecDepth 1000000 in
theorem insertion_any (enc : α → List Value) (cf : α → α → Int) (hO : SWO (ltOf cf)) (g : Nat) (cb : Array Value) (eg : ∀ args w, (callFunc g args).run Tryz.prog w = .ok (.enter g args) w) (blk off cap N a b : Nat) (d0 : Array α) (w0 w : World)
    (hcmp : CmpLays Tryz.prog g cb enc 3 cf blk off N w0) (k : Nat) (hk3 : 3 = k) (R : RowK enc k w0 blk off d0) (p x r l : List α) (hl : l = p ++ x ++ r) (hs : d0.size = N) (hN : l.length = N) (S : SWK enc k w0 blk off l.toArray w) (ha : p.length = a) (hb : a + x.length = b) (hsz : N < 4611686018427387904) :
    Calls Tryz.prog 132 #[.slice (some ⟨blk, off, none⟩) N cap, .int .i64 a, .int .i64 b, .func (.func g) #[] cb] w fun e w' => e = .returned (.tuple #[]) ∧
      ∃ z : List α, SWK enc k w0 blk off (p ++ z ++ r).toArray w' ∧ Srt cf z ∧ z.Perm x := by
  rw [hk3] at hcmp
  have mixed : Tryz.prog.follows .mixedOrders = true := by kernel_rfl
  have aE : ∀ w, (isAgg 59).run Tryz.prog w = .ok true w := fun w => by kernel_rfl
  have zE : ∀ w, (Go.sizeOf 59).run Tryz.prog w = .ok k w := by rw [← hk3]; exact fun w => by kernel_rfl
  have hnl : a + x.length + r.length = N := by rw [← hN, hl]; simp only [List.length_append]; omega
  have S0 : Aside (SWK enc k w0 blk off l.toArray w) := S
  have HL := Lib.hid hl
  have HS := Lib.hid hs
  have HA := Lib.hid ha
  have HN := Lib.hid hN
  have HC : Aside _ := hcmp
  have H3 := Lib.hid hk3
  clear S hl hs hN hcmp hk3
  obtain ⟨nx, hnx⟩ : ∃ n, n = x.length := ⟨_, rfl⟩
  obtain ⟨nr, hnr⟩ : ∃ n, n = r.length := ⟨_, rfl⟩
  rw [← hnx] at hb hnl
  rw [← hnr] at hnl
  have HNX := Lib.hid hnx
  have HNR := Lib.hid hnr
  clear hnx hnr ha
  have hbN : b ≤ N := by omega
  have hab : a ≤ b := by omega
  have HB := Lib.hid hb
  have HNL := Lib.hid hnl
  clear hb hnl
  have START : Aside (∃ z x2 : List α, SWK enc k w0 blk off (p ++ z ++ x2 ++ r).toArray w ∧ Srt cf z ∧ (z ++ x2).Perm x ∧ (z.length + a = a + 1 ∨ x = [])) := by
    cases hx : x with
    | nil => exact ⟨[], [], by simpa [HL.out, hx] using S0.out, List.Pairwise.nil, by simp, .inr rfl⟩
    | cons c x2 => exact ⟨[c], x2, by simpa [HL.out, hx] using S0.out, List.pairwise_singleton _ _, List.Perm.refl _, .inl (by simp; omega)⟩
  go_enter Tryz.func132, Tryz.ntmps132
  go_wp2
  go_loopg [8] (b - a) (fun kx s8 wr => ∃ i : Nat, s8 = .int .i64 i ∧ a < i ∧ i ≤ b + 1 ∧ b + 1 - i ≤ kx + 1 ∧ Aside (∃ z x2 : List α, SWK enc k w0 blk off (p ++ z ++ x2 ++ r).toArray wr ∧ Srt cf z ∧ (z ++ x2).Perm x ∧ (z.length + a = i ∨ x = [])))
  case atStart => exact ⟨a + 1, by go_num, by omega, by omega, by omega, START⟩
  case round =>
    clear START S0
    obtain ⟨i, rfl, hai, hib, hg1, S1⟩ := hrel
    by_cases hlt : i < b
    · have hltz : (i : Int) < (b : Int) := by omega
      obtain ⟨z, e0, x3, S2⟩ : ∃ (z : List α) (e0 : α) (x3 : List α), Aside (SWK enc k w0 blk off (p ++ z ++ [e0] ++ x3 ++ r).toArray wr ∧ Srt cf z ∧ (z ++ e0 :: x3).Perm x ∧ z.length + a = i) := by
        obtain ⟨z, x2, h1, h2, h3, h4⟩ := S1.out
        have hl := h3.length_eq
        rw [List.length_append, ← HNX.out] at hl
        rcases h4 with h4 | h4
        · cases x2 with
          | nil => have := HB.out; simp at hl; omega
          | cons e0 x3 => exact ⟨z, e0, x3, by simpa using h1, h2, h3, h4⟩
        · have h5 := HNX.out; rw [h4] at h5; have := HB.out; simp at h5; omega
      have HZ := Lib.hid (show (z ++ e0 :: x3).Perm x ∧ Srt cf z ∧ z.length + a = i from ⟨S2.out.2.2.1, S2.out.2.1, S2.out.2.2.2⟩)
      have ST2 : Aside (∃ z1 z2 : List α, SWK enc k w0 blk off (p ++ z1 ++ [e0] ++ z2 ++ x3 ++ r).toArray wr ∧ z1 ++ z2 = z ∧ z1.length + a = i ∧ ∀ s t, z2 = s :: t → Le cf e0 s) :=
        ⟨z, [], by simpa using S2.out.1, by simp, S2.out.2.2.2, fun s t h => by cases h⟩
      clear S1 S2
      go_wp2
      go_loopg [9] i (fun g2 vj wr => ∃ j : Nat, vj = .int .i64 j ∧ a ≤ j ∧ j ≤ i ∧ j ≤ g2 ∧ Aside (∃ z1 z2 : List α, SWK enc k w0 blk off (p ++ z1 ++ [e0] ++ z2 ++ x3 ++ r).toArray wr ∧ z1 ++ z2 = z ∧ z1.length + a = j ∧ ∀ s t, z2 = s :: t → Le cf e0 s))
      case atStart => exact ⟨i, rfl, by omega, Nat.le_refl _, Nat.le_refl _, ST2⟩
      case round =>
        clear ST2
        obtain ⟨j, rfl, haj, hji, hg2, S3⟩ := hrel
        -- what comes out of the inner loop
        have out : ∀ w' : World, (∃ z1 z2 : List α, SWK enc k w0 blk off (p ++ z1 ++ [e0] ++ z2 ++ x3 ++ r).toArray w' ∧ z1 ++ z2 = z ∧ z1.length + a = j ∧ (∀ s t, z2 = s :: t → Le cf e0 s) ∧ (∀ t s, z1 = t ++ [s] → Le cf s e0)) →
            Aside (∃ z x2 : List α, SWK enc k w0 blk off (p ++ z ++ x2 ++ r).toArray w' ∧ Srt cf z ∧ (z ++ x2).Perm x ∧ (z.length + a = i + 1 ∨ x = [])) := fun w' ⟨z1, z2, h1, h2, h3, h4, h5⟩ => by
          have hzl : (z1 ++ z2).length = z.length := by rw [h2]
          rw [List.length_append] at hzl
          refine ⟨z1 ++ e0 :: z2, x3, by simpa using h1, Srt.put hO (by rw [h2]; exact HZ.out.2.1) h5 h4, ?_, .inl ?_⟩
          · refine List.Perm.trans ?_ HZ.out.1
            rw [← h2]
            simp only [List.append_assoc, List.cons_append]
            exact List.Perm.append_left z1 (List.perm_middle (l₁ := z2)).symm
          · rw [List.length_append, List.length_cons]
            have := HZ.out.2.2; omega
        have OUT : Aside _ := out
        clear out
        by_cases hja : a < j
        · have hjaz : (a : Int) < (j : Int) := by omega
          obtain ⟨q, rfl⟩ : ∃ q, j = q + 1 := ⟨j - 1, by omega⟩
          have hqb : q + 1 < b := by omega
          obtain ⟨z3, c, z2, S4⟩ : ∃ (z3 : List α) (c : α) (z2 : List α), Aside (SWK enc k w0 blk off (p ++ (z3 ++ [c]) ++ [e0] ++ z2 ++ x3 ++ r).toArray wr ∧ (z3 ++ [c]) ++ z2 = z ∧ z3.length + a = q ∧ ∀ s t, z2 = s :: t → Le cf e0 s) := by
            obtain ⟨z1, z2, h1, h2, h3, h4⟩ := S3.out
            obtain ⟨z3, c, rfl⟩ : ∃ z3 c, z1 = z3 ++ [c] := ⟨z1.dropLast, z1.getLast (by rintro rfl; simp at h3; omega), (List.dropLast_concat_getLast _).symm⟩
            exact ⟨z3, c, z2, h1, h2, by simp at h3; omega, h4⟩
          clear S3
          obtain ⟨dq, hdq⟩ : ∃ dq, dq = (p ++ (z3 ++ [c]) ++ [e0] ++ z2 ++ x3 ++ r).toArray := ⟨_, rfl⟩
          have S5 : Aside (SWK enc k w0 blk off dq wr) := by rw [hdq]; exact S4.out.1
          have hqs : dq.size = N := by
            have e2 := congrArg List.length S4.out.2.1
            have e3 := HZ.out.1.length_eq
            rw [hdq, List.size_toArray]
            simp only [List.length_append, List.length_cons, List.length_nil] at e2 e3 ⊢
            rw [← HNX.out] at e3; rw [← HNR.out, HA.out]
            have := HB.out; have := HNL.out; omega
          have hsw : swp dq (q + 1) q = (p ++ z3 ++ [e0] ++ (c :: z2) ++ x3 ++ r).toArray := by
            rw [hdq]
            have e3 := swp_back (p ++ z3) [] (z2 ++ x3 ++ r) c e0 (q + 1) q (by rw [List.length_append, HA.out]; simp; have := S4.out.2.2.1; omega) (by rw [List.length_append, HA.out]; have := S4.out.2.2.1; omega)
            simp only [List.nil_append] at e3
            rw [show p ++ (z3 ++ [c]) ++ [e0] ++ z2 ++ x3 ++ r = p ++ z3 ++ c :: (e0 :: (z2 ++ x3 ++ r)) by simp, show p ++ z3 ++ [e0] ++ (c :: z2) ++ x3 ++ r = p ++ z3 ++ e0 :: (c :: (z2 ++ x3 ++ r)) by simp]
            exact e3
          have g1 : dq[q + 1]! = e0 := by
            rw [hdq, List.getElem!_toArray, show p ++ (z3 ++ [c]) ++ [e0] ++ z2 ++ x3 ++ r = p ++ (z3 ++ [c]) ++ [e0] ++ (z2 ++ x3 ++ r) by simp]
            have := get_at (p ++ (z3 ++ [c])) [e0] (z2 ++ x3 ++ r) 0 (by simp)
            rw [Nat.add_zero, show (p ++ (z3 ++ [c])).length = q + 1 by simp only [List.length_append, List.length_singleton, HA.out]; have := S4.out.2.2.1; omega] at this
            exact this
          have g2 : dq[q]! = c := by
            rw [hdq, List.getElem!_toArray, show p ++ (z3 ++ [c]) ++ [e0] ++ z2 ++ x3 ++ r = (p ++ z3) ++ [c] ++ ([e0] ++ z2 ++ x3 ++ r) by simp]
            have := get_at (p ++ z3) [c] ([e0] ++ z2 ++ x3 ++ r) 0 (by simp)
            rw [Nat.add_zero, show (p ++ z3).length = q by simp only [List.length_append, HA.out]; have := S4.out.2.2.1; omega] at this
            exact this
          have HSW := Lib.hid hsw
          have HG := Lib.hid (show dq[q + 1]! = e0 ∧ dq[q]! = c from ⟨g1, g2⟩)
          have HDQ := Lib.hid hdq
          clear hdq hsw g1 g2
          have S4' : Aside ((z3 ++ [c]) ++ z2 = z ∧ z3.length + a = q ∧ ∀ s t, z2 = s :: t → Le cf e0 s) := S4.out.2
          clear S4
          have ea : ((q : Int) + 1).toNat = q + 1 := by omega
          have pa : (0 : Int) ≤ (q : Int) + 1 := by omega
          have ba : (q : Int) + 1 < (N : Int) := by omega
          have ra : IntKind.i64.wrap ((q : Int) + 1) = (q : Int) + 1 := by rw [IntKind.wrap_i64]; omega
          have ec : ((q : Int)).toNat = q := by omega
          have pc : (0 : Int) ≤ (q : Int) := by omega
          have bc : (q : Int) < (N : Int) := by omega
          have rc : IntKind.i64.wrap ((q : Int)) = (q : Int) := by rw [IntKind.wrap_i64]; omega
          have hjz2 : (a : Int) < (q : Int) + 1 := by omega
          have la1 := S5.out.ld R (by rw [HS.out]; exact hqs) Tryz.prog (q + 1) (by omega)
          have lb1 := S5.out.ld R (by rw [HS.out]; exact hqs) Tryz.prog q (by omega)
          rw [HG.out.1] at la1
          rw [HG.out.2] at lb1
          have hc := S5.out.cmp HC.out hqs e0 c
          by_cases hv : cf e0 c < 0
          · have hd : decide (cf e0 c < 0) = true := decide_eq_true hv
            have HV := Lib.hid hv
            go_wp2_with fail
            go_quiet_grown (first | (go_at_fn g; refine Calls.grown_of (hc _ _)))
            have S6 : Aside (SWK enc k w0 blk off dq (grow (wr.drewN nq) osq)) := S5.out.grown nq osq
            clear la1 lb1 hc S5
            generalize grow (wr.drewN nq) osq = w3 at S6 ⊢
            clear nq osq
            have S7 : Aside (SWK enc k w0 blk off (swp dq (q + 1) q) ((w3.drew.setCells blk (off + (q + 1) * k) (enc dq[q]!)).setCells blk (off + q * k) (enc dq[q + 1]!))) := S6.out.swapped R (q + 1) q (by omega) (by omega)
            have l44a := S6.out.ld1 R (by rw [HS.out]; exact hqs) Tryz.prog (q + 1) (by omega)
            have l44b := S6.out.ld1 R (by rw [HS.out]; exact hqs) Tryz.prog q (by omega)
            have s44a := S6.out.st1 R (by rw [HS.out]; exact hqs) Tryz.prog (q + 1) (by omega) dq[q]!
            have s44b := S6.out.st2 R (by rw [HS.out]; exact hqs) Tryz.prog (q + 1) q (by omega) (by omega) dq[q]! dq[q + 1]!
            have n44a : (enc dq[q + 1]!).length = k := R.hk _
            have n44b : (enc dq[q]!).length = k := R.hk _
            generalize enc dq[q + 1]! = cI44 at S7 l44a s44b n44a
            generalize enc dq[q]! = cJ44 at S7 l44b s44a s44b n44b
            clear S6
            go_wp2_with fail
            go_big_region_o
            clear l44a l44b s44a s44b
            generalize (w3.drew.setCells blk (off + (q + 1) * k) cJ44).setCells blk (off + q * k) cI44 = w2 at S7 ⊢
            go_wp2
            go_roundg q
            case measure => omega
            case rel =>
              refine ⟨q, by go_num, by omega, by omega, Nat.le_refl _, ⟨z3, c :: z2, ?_, by rw [← S4'.out.1]; simp, S4'.out.2.1, fun s t h => ?_⟩⟩
              · rw [← HSW.out]; exact S7.out
              · cases h; exact Le.of_lt hO HV.out
          · have hd : decide (cf e0 c < 0) = false := decide_eq_false hv
            have HV := Lib.hid hv
            go_wp2_with fail
            go_quiet_grown (first | (go_at_fn g; refine Calls.grown_of (hc _ _)))
            have S6 : Aside (SWK enc k w0 blk off dq (grow (wr.drewN nq) osq)) := S5.out.grown nq osq
            clear la1 lb1 hc S5
            generalize grow (wr.drewN nq) osq = w3 at S6 ⊢
            clear nq osq
            go_wp2
            go_roundg (b - (i + 1))
            case measure => omega
            case rel =>
              refine ⟨i + 1, by go_num, by omega, by omega, by omega, OUT.out _ ⟨z3 ++ [c], z2, ?_, S4'.out.1, by rw [List.length_append, List.length_singleton]; have := S4'.out.2.1; omega, S4'.out.2.2, fun t s h => ?_⟩⟩
              · rw [← HDQ.out]; exact S6.out
              · have h2 := List.append_inj_right' h rfl
                cases h2
                have := HV.out
                show ¬ cf e0 c < 0
                omega
        · have hjaz : decide ((j : Int) > (a : Int)) = false := decide_eq_false (by omega)
          have hjaz' : ¬ (a : Int) < (j : Int) := by omega
          have hj0 : j = a := by omega
          have S4 : Aside (∃ z1 z2 : List α, SWK enc k w0 blk off (p ++ z1 ++ [e0] ++ z2 ++ x3 ++ r).toArray wr.drew ∧ z1 ++ z2 = z ∧ z1.length + a = j ∧ (∀ s t, z2 = s :: t → Le cf e0 s) ∧ (∀ t s, z1 = t ++ [s] → Le cf s e0)) := by
            obtain ⟨z1, z2, h1, h2, h3, h4⟩ := S3.out
            refine ⟨z1, z2, h1.drew, h2, h3, h4, fun t s h => ?_⟩
            subst h; simp at h3; omega
          clear S3
          go_wp2_with fail
          go_big_region_o
          all_goals go_wp2
          go_roundg (b - (i + 1))
          case measure => omega
          case rel => exact ⟨i + 1, by go_num, by omega, by omega, by omega, OUT.out _ S4.out⟩
    · have hltz : ¬ (i : Int) < (b : Int) := by omega
      go_wp2
      go_end0
      obtain ⟨z, x2, h1, h2, h3, h4⟩ := S1.out
      have hl := h3.length_eq
      rw [List.length_append, ← HNX.out] at hl
      have hx2 : x2 = [] := by
        rcases h4 with h4 | h4
        · refine List.length_eq_zero_iff.1 ?_; have := HB.out; omega
        · have h5 := HNX.out; rw [h4] at h5; refine List.length_eq_zero_iff.1 ?_; simp at h5; omega
      subst hx2
      exact ⟨rfl, z, by simpa using h1, h2, by simpa using h3⟩
end Go.Proofs.Ts
