/- Lemmas towards the statement Sorted of termsearch: walks of the program's functions and plain laws on lists (TsSortQ, TsSort7, TsSug, TsOrdC, TsSugB, TsSugS, TsSugY). Conditions: those that each theorem names. -/
import Derived.Test.YtglafkgakcfahaaGreatDoorSortedPM
import Derived.Test.YtglafkgakcfahaaGreatDoorSortedPA
import Derived.Test.YtglafkgakcfahaaGreatDoorSortedPE
import Derived.Test.YtglafkgakcfahaaGreatDoorShelf
import Derived.Shelf.SlSortCmp.KitK
import Derived.Deep.CutBlock
import Derived.Deep.DeepCutAuto
import Derived.Deep.Quiet
import Derived.Sort.OwnSorted
import Derived.Test.YtglafkgakcfahaaGreatDoorSortedPL
import Derived.Test.YtglafkgakcfahaaGreatDoorSortedPD
import Derived.Test.YtglafkgakcfahaaGreatDoorSortedPJ
/- Plain laws on runs: a list in blocks of equal length, each sorted. No program in sight. -/
set_option linter.unusedVariables false
set_option linter.unusedSimpArgs false
namespace Go.Proofs.Ts
open Go Go.Shelf Go.Sort
variable {α : Type} [Inhabited α] {cf : α → α → Int}

/-- From lo to hi, each block of bs places is sorted. -/
def RunsIn (cf : α → α → Int) (lo hi bs : Nat) (l : List α) : Prop := ∀ i j, lo ≤ i → i < j → j < hi → i / bs = j / bs → Le cf l[i]! l[j]!

theorem get_pre (p x r : List α) (i : Nat) (h : i < p.length) : (p ++ x ++ r)[i]! = p[i]! := by
  rw [List.getElem!_eq_getElem?_getD, List.getElem!_eq_getElem?_getD, List.getElem?_append_left (by rw [List.length_append]; omega), List.getElem?_append_left h]
theorem get_post (p x z r : List α) (i : Nat) (hz : z.length = x.length) (h : p.length + x.length ≤ i) : (p ++ z ++ r)[i]! = (p ++ x ++ r)[i]! := by
  rw [List.getElem!_eq_getElem?_getD, List.getElem!_eq_getElem?_getD, List.getElem?_append_right (by rw [List.length_append]; omega), List.getElem?_append_right (by rw [List.length_append]; omega), List.length_append, List.length_append, hz]

theorem div_lt_block {bs q i j : Nat} (hb : 0 < bs) (hi : i < bs * q) (hj : bs * q ≤ j) : i / bs ≠ j / bs := by
  have h1 : i / bs < q := Nat.div_lt_of_lt_mul hi
  have h2 : q ≤ j / bs := by rw [Nat.le_div_iff_mul_le hb, Nat.mul_comm]; exact hj
  omega

theorem RunsIn.put {p x z r : List α} {bs q : Nat} (hO : SWO (ltOf cf)) (hb : 0 < bs) (hp : p.length = bs * q) (hz : z.length = x.length) (hs : Srt cf z) (h : RunsIn cf 0 p.length bs (p ++ x ++ r)) : RunsIn cf 0 (p.length + x.length) bs (p ++ z ++ r) := by
  intro i j _ hij hj hd
  rcases Nat.lt_or_ge j p.length with h1 | h1
  · have := h i j (Nat.zero_le _) hij h1 hd
    rw [get_pre _ _ _ _ (by omega), get_pre _ _ _ _ h1] at this ⊢
    exact this
  · rcases Nat.lt_or_ge i p.length with h2 | h2
    · exact absurd hd (div_lt_block (q := q) hb (by rw [← hp]; exact h2) (by rw [← hp]; exact h1))
    · have e1 := get_at p z r (i - p.length) (by omega)
      have e2 := get_at p z r (j - p.length) (by omega)
      rw [show p.length + (i - p.length) = i by omega] at e1
      rw [show p.length + (j - p.length) = j by omega] at e2
      rw [e1, e2]
      exact hs.at hO (by omega) (by omega)

theorem RunsIn.tail {p x z r : List α} {bs hi : Nat} (hz : z.length = x.length) (h : RunsIn cf (p.length + x.length) hi bs (p ++ x ++ r)) : RunsIn cf (p.length + x.length) hi bs (p ++ z ++ r) := by
  intro i j hi hij hj hd
  rw [get_post p x z r i hz hi, get_post p x z r j hz (by omega)]
  exact h i j hi hij hj hd

theorem RunsIn.mono {lo hi lo' hi' bs : Nat} {l : List α} (h : RunsIn cf lo hi bs l) (h1 : lo ≤ lo') (h2 : hi' ≤ hi) : RunsIn cf lo' hi' bs l := fun i j a b c d => h i j (by omega) b (by omega) d

theorem RunsIn.srt {p x r : List α} {bs q lo hi : Nat} (hb : 0 < bs) (hp : p.length = bs * q) (hx : x.length ≤ bs) (hl : lo ≤ p.length) (hh : p.length + x.length ≤ hi) (h : RunsIn cf lo hi bs (p ++ x ++ r)) : Srt cf x := by
  unfold Srt
  rw [List.pairwise_iff_getElem]
  intro i j hi hj hij
  have hd : ∀ t, t < bs → (p.length + t) / bs = q := fun t ht => by
    rw [hp, Nat.add_comm, Nat.add_mul_div_left _ _ hb, Nat.div_eq_of_lt ht, Nat.zero_add]
  have := h (p.length + i) (p.length + j) (by omega) (by omega) (by omega) (by rw [hd i (by omega), hd j (by omega)])
  rw [get_at _ _ _ _ hi, get_at _ _ _ _ hj] at this
  simpa [List.getElem!_eq_getElem?_getD, List.getElem?_eq_getElem, hi, hj] using this

theorem RunsIn.all {l : List α} {bs : Nat} (h : RunsIn cf 0 l.length bs l) (hb : l.length ≤ bs) : Srt cf l := by
  unfold Srt
  rw [List.pairwise_iff_getElem]
  intro i j hi hj hij
  have := h i j (Nat.zero_le _) hij hj (by rw [Nat.div_eq_of_lt (by omega), Nat.div_eq_of_lt (by omega)])
  simpa [List.getElem!_eq_getElem?_getD, List.getElem?_eq_getElem, hi, hj] using this

/-- A tail that is one run is one run of any greater length. -/
theorem RunsIn.one {l : List α} {lo hi bs q : Nat} (hb : 0 < bs) (hlo : lo = bs * q) (hh : hi ≤ lo + bs) (h : RunsIn cf lo hi bs l) (bs' : Nat) : RunsIn cf lo hi bs' l := by
  intro i j h1 h2 h3 _
  have hd : ∀ t, lo ≤ t → t < hi → t / bs = q := fun t ht ht' => by
    obtain ⟨u, rfl⟩ : ∃ u, t = lo + u := ⟨t - lo, by omega⟩
    rw [hlo, Nat.add_comm, Nat.add_mul_div_left _ _ hb, Nat.div_eq_of_lt (by omega), Nat.zero_add]
  exact h i j h1 h2 h3 (by rw [hd i h1 (by omega), hd j (by omega) h3])

theorem RunsIn.join {l : List α} {m hi bs q : Nat} (hb : 0 < bs) (hm : m = bs * q) (h : RunsIn cf 0 m bs l) (k : RunsIn cf m hi bs l) : RunsIn cf 0 hi bs l := by
  intro i j h1 h2 h3 hd
  rcases Nat.lt_or_ge j m with a | a
  · exact h i j h1 h2 a hd
  · rcases Nat.lt_or_ge i m with b | b
    · exact absurd hd (div_lt_block (q := q) hb (by rw [← hm]; exact b) (by rw [← hm]; exact a))
    · exact k i j b h2 h3 hd

omit [Inhabited α] in
/-- A list, parted at a and b. -/
theorem part3 (l : List α) (a b : Nat) (h1 : a ≤ b) (h2 : b ≤ l.length) : ∃ p x r : List α, l = p ++ x ++ r ∧ p.length = a ∧ a + x.length = b ∧ b + r.length = l.length :=
  ⟨l.take a, (l.drop a).take (b - a), l.drop b, by
    rw [List.append_assoc]
    have : (l.drop a).take (b - a) ++ l.drop b = l.drop a := by
      have := List.take_append_drop (b - a) (l.drop a)
      rw [List.drop_drop, show a + (b - a) = b by omega] at this
      exact this
    rw [this, List.take_append_drop], by rw [List.length_take]; omega, by rw [List.length_take, List.length_drop]; omega, by rw [List.length_drop]; omega⟩
end Go.Proofs.Ts
/- slices.stableCmpFunc and SortStableFunc at elements of three cells, on lists. Conditions: those that each theorem names. -/
set_option linter.unusedVariables false
set_option linter.unusedSimpArgs false
namespace Go.Proofs.Ts
open Go Go.Shelf Go.RowKit Go.Lib Go.Sort
variable {α : Type} [Inhabited α]

set_option maxHeartbeats 4000000 in
set_option maxRecDepth 1000000 in
theorem stable_any (enc : α → List Value) (cf : α → α → Int) (hO : SWO (ltOf cf)) (g : Nat) (cb : Array Value) (eg : ∀ args w, (callFunc g args).run Tryz.prog w = .ok (.enter g args) w) (blk off cap N : Nat) (d0 : Array α) (w0 w : World)
    (hcmp : CmpLays Tryz.prog g cb enc 3 cf blk off N w0) (k : Nat) (hk3 : 3 = k) (R : RowK enc k w0 blk off d0) (l : List α) (hs : d0.size = N) (hN : l.length = N) (S : SWK enc k w0 blk off l.toArray w) (hsz : N ≤ 1000000) :
    Calls Tryz.prog 95 #[.slice (some ⟨blk, off, none⟩) N cap, .int .i64 N, .func (.func g) #[] cb] w fun e w' => e = .returned (.tuple #[]) ∧
      ∃ z : List α, SWK enc k w0 blk off z.toArray w' ∧ Srt cf z ∧ z.Perm l := by
  have S0 : Aside (SWK enc k w0 blk off l.toArray w ∧ l.length = N ∧ d0.size = N ∧ 3 = k) := ⟨S, hN, hs, hk3⟩
  have HC : Aside (CmpLays Tryz.prog g cb enc 3 cf blk off N w0) := hcmp
  clear S hs hN hcmp hk3
  go_enter Tryz.func95, Tryz.ntmps95
  go_wp2
  go_loopg [7, 8] N (fun kx s7 s8 wr => ∃ a : Nat, s7 = .int .i64 a ∧ s8 = .int .i64 ((a + 20 : Nat) : Int) ∧ a ≤ N ∧ N - a ≤ kx ∧ Aside (∃ q, a = 20 * q) ∧ Aside (∃ z : List α, SWK enc k w0 blk off z.toArray wr ∧ z.length = N ∧ z.Perm l ∧ RunsIn cf 0 a 20 z))
  case atStart => exact ⟨0, rfl, rfl, by omega, by omega, ⟨0, rfl⟩, ⟨l, S0.out.1, S0.out.2.1, List.Perm.refl _, fun i j _ _ h => by omega⟩⟩
  case round =>
    obtain ⟨a, rfl, rfl, haN, hkx, HQ, S1⟩ := hrel
    by_cases hlt : a + 20 ≤ N
    · have hltz : (a : Int) + 20 ≤ (N : Int) := by omega
      go_wp2_with fail
      obtain ⟨z, h1, h2, h3, h4⟩ := S1.out
      obtain ⟨p, x, r, hz, hp, hx, hr⟩ := part3 z a (a + 20) (by omega) (by omega)
      try rw [show ((a + 20 : Nat) : Int) = (a : Int) + 20 by omega]
      have hc := insertion_any enc cf hO g cb eg blk off cap N a (a + 20) d0 w0 wr HC.out k S0.out.2.2.2 R p x r z hz S0.out.2.2.1 h2 h1 hp hx (by omega)
      rw [show ((a + 20 : Nat) : Int) = (a : Int) + 20 by omega] at hc
      refine hc.mono ?_
      rintro e w2 ⟨rfl, y, g1, g2, g3⟩
      have S2 : Aside (∃ z : List α, SWK enc k w0 blk off z.toArray w2 ∧ z.length = N ∧ z.Perm l ∧ RunsIn cf 0 (a + 20) 20 z) := by
        obtain ⟨q, hq⟩ := HQ.out
        have hyl := g3.length_eq
        refine ⟨p ++ y ++ r, g1, ?_, ?_, ?_⟩
        · rw [← h2, hz]; simp only [List.length_append, hyl]
        · refine List.Perm.trans ?_ h3
          rw [hz]
          exact List.Perm.append_right r (List.Perm.append_left p g3)
        · have := RunsIn.put (x := x) (r := r) hO (by decide : 0 < 20) (by rw [hp]; exact hq) hyl g2 (by rw [hp, ← hz]; exact h4)
          rw [hp, hx] at this
          exact this
      have HQ2 : Aside (∃ q, a + 20 = 20 * q) := by obtain ⟨q, hq⟩ := HQ.out; exact ⟨q + 1, by omega⟩
      clear h1 h2 h3 h4 hz hp hx hr g1 g2 g3 hc HQ S1
      go_wp2
      go_roundg (N - (a + 20))
      case measure => omega
      case rel => exact ⟨a + 20, by go_num, by go_num, by omega, Nat.le_refl _, HQ2, S2⟩
    · have hltz : ¬ (a : Int) + 20 ≤ (N : Int) := by omega
      go_wp2_with fail
      obtain ⟨z, h1, h2, h3, h4⟩ := S1.out
      obtain ⟨p, x, r, hz, hp, hx, hr⟩ := part3 z a N haN (by omega)
      refine (insertion_any enc cf hO g cb eg blk off cap N a N d0 w0 wr HC.out k S0.out.2.2.2 R p x r z hz S0.out.2.2.1 h2 h1 hp hx (by omega)).mono ?_
      rintro e w2 ⟨rfl, y, g1, g2, g3⟩
      have S2 : Aside (∃ z : List α, SWK enc k w0 blk off z.toArray w2 ∧ z.length = N ∧ z.Perm l ∧ RunsIn cf 0 N 20 z) := by
        obtain ⟨q, hq⟩ := HQ.out
        have hyl := g3.length_eq
        refine ⟨p ++ y ++ r, g1, ?_, ?_, ?_⟩
        · rw [← h2, hz]; simp only [List.length_append, hyl]
        · refine List.Perm.trans ?_ h3
          rw [hz]
          exact List.Perm.append_right r (List.Perm.append_left p g3)
        · have := RunsIn.put (x := x) (r := r) hO (by decide : 0 < 20) (by rw [hp]; exact hq) hyl g2 (by rw [hp, ← hz]; exact h4)
          rw [hp, hx] at this
          exact this
      clear h1 h2 h3 h4 hz hp hx hr g1 g2 g3 HQ S1
      have hkx2 : True := trivial
      clear hkx hltz hlt
      go_wp2
      go_loopg [6, 7, 8, 9] N (fun kx s6 s7 s8 s9 wr => ∃ bs : Nat, s6 = .int .i64 bs ∧ 0 < bs ∧ bs ≤ 2000000 ∧ N - bs ≤ kx ∧ Aside (∃ z : List α, SWK enc k w0 blk off z.toArray wr ∧ z.length = N ∧ z.Perm l ∧ RunsIn cf 0 N bs z))
      case atStart => exact ⟨20, rfl, by omega, by omega, by omega, S2⟩
      case round =>
        clear S2
        obtain ⟨bs, rfl, hb0, hbm, hkb, S3⟩ := hrel
        by_cases hbN : bs < N
        · have hbNz : (bs : Int) < (N : Int) := by omega
          obtain ⟨bb, hbb⟩ : ∃ bb, bb = bs + bs := ⟨_, rfl⟩
          have hbbz : 2 * (bs : Int) = (bb : Int) := by omega
          have hbbz2 : (bs : Int) * 2 = (bb : Int) := by omega
          have hbb1 : bs + bs ≤ bb := by omega
          have hbb2 : bb ≤ bs + bs := by omega
          have hbb3 : bb ≤ 2000000 := by omega
          have HBB := Lib.hid hbb
          clear hbb
          have S4 : Aside (∃ z : List α, SWK enc k w0 blk off z.toArray wr ∧ z.length = N ∧ z.Perm l ∧ RunsIn cf 0 0 bb z ∧ RunsIn cf 0 N bs z) := by
            obtain ⟨z, h1, h2, h3, h4⟩ := S3.out
            exact ⟨z, h1, h2, h3, fun i j _ _ h => by omega, h4⟩
          clear S3
          go_wp2
          go_loopg [7, 8] N (fun kx s7 s8 wr => ∃ a : Nat, s7 = .int .i64 a ∧ s8 = .int .i64 ((a + bb : Nat) : Int) ∧ a ≤ N ∧ N - a ≤ kx ∧ Aside (∃ q, a = bb * q) ∧ Aside (∃ z : List α, SWK enc k w0 blk off z.toArray wr ∧ z.length = N ∧ z.Perm l ∧ RunsIn cf 0 a bb z ∧ RunsIn cf a N bs z))
          case atStart => exact ⟨0, rfl, by simp, by omega, by omega, ⟨0, rfl⟩, S4⟩
          case round =>
            clear S4
            obtain ⟨a, rfl, rfl, haN, hka, HQ, S5⟩ := hrel
            by_cases hle : a + bb ≤ N
            · have hlez : (a : Int) + (bb : Int) ≤ (N : Int) := by omega
              go_wp2_with fail
              obtain ⟨z, h1, h2, h3, h4, h5⟩ := S5.out
              obtain ⟨p, x, r', hz, hp, hx, hr⟩ := part3 z a (a + bs) (by omega) (by omega)
              obtain ⟨y, r, hy⟩ : ∃ y r : List α, y ++ r = r' ∧ (a + bs) + y.length = a + bb := ⟨r'.take bs, r'.drop bs, List.take_append_drop _ _, by rw [List.length_take]; omega⟩
              obtain ⟨hyr, hyl⟩ := hy
              subst hyr
              have hsx : Srt cf x := by
                obtain ⟨q, hq⟩ := HQ.out
                rw [hz] at h5
                exact RunsIn.srt (r := y ++ r) hb0 (q := 2 * q) (by rw [hp, hq, HBB.out, ← Nat.two_mul, Nat.mul_comm 2 bs, Nat.mul_assoc]) (by omega) (Nat.le_of_eq hp.symm) (show p.length + x.length ≤ N by omega) h5
              have hsy : Srt cf y := by
                obtain ⟨q, hq⟩ := HQ.out
                have h6 : RunsIn cf a N bs ((p ++ x) ++ y ++ r) := by rw [List.append_assoc (p ++ x), ← hz]; exact h5
                exact RunsIn.srt (p := p ++ x) hb0 (q := 2 * q + 1) (by rw [List.length_append, hp, hx, hq, HBB.out, ← Nat.two_mul, Nat.mul_comm 2 bs, Nat.mul_assoc]; rfl) (by omega) (by rw [List.length_append]; omega) (by rw [List.length_append]; omega) h6
              have hc := symMerge_any enc cf hO g cb eg blk off cap N d0 w0 HC.out k S0.out.2.2.2 R S0.out.2.2.1 (by omega) _ a (a + bs) (a + bb) p x y r z wr (Nat.le_refl _) (by rw [hz]; simp) h2 h1 hp hx hyl (by omega) (by omega) hsx hsy
              have q1 : ((a + bs : Nat) : Int) = (a : Int) + (bs : Int) := by omega
              have q2 : ((a + bb : Nat) : Int) = (a : Int) + (bb : Int) := by omega
              rw [q1, q2] at hc
              refine hc.mono ?_
              rintro e w2 ⟨rfl, v, g1, g2, g3⟩
              have S6 : Aside (∃ z : List α, SWK enc k w0 blk off z.toArray w2 ∧ z.length = N ∧ z.Perm l ∧ RunsIn cf 0 (a + bb) bb z ∧ RunsIn cf (a + bb) N bs z) := by
                obtain ⟨q, hq⟩ := HQ.out
                have hvl : v.length = (x ++ y).length := g3.length_eq
                have hz2 : z = p ++ (x ++ y) ++ r := by rw [hz]; simp
                have hxy : p.length + (x ++ y).length = a + bb := by rw [List.length_append]; omega
                refine ⟨p ++ v ++ r, g1, ?_, ?_, ?_, ?_⟩
                · rw [← h2, hz2]; simp only [List.length_append, hvl]
                · refine List.Perm.trans ?_ h3
                  rw [hz2]
                  exact List.Perm.append_right r (List.Perm.append_left p g3)
                · have := RunsIn.put (x := x ++ y) (r := r) hO (by omega : 0 < bb) (by rw [hp]; exact hq) hvl g2 (by rw [hp, ← hz2]; exact h4)
                  rw [hxy] at this
                  exact this
                · have := RunsIn.tail (hi := N) (r := r) hvl (by rw [hxy, ← hz2]; exact h5.mono (by omega) (Nat.le_refl _))
                  rw [hxy] at this
                  exact this
              have HQ2 : Aside (∃ q, a + bb = bb * q) := by obtain ⟨q, hq⟩ := HQ.out; exact ⟨q + 1, by rw [Nat.mul_add, Nat.mul_one, ← hq]⟩
              clear h1 h2 h3 h4 h5 hz hp hx hr hyl hsx hsy hc g1 g2 g3 HQ S5
              go_wp2
              go_roundg (N - (a + bb))
              case measure => omega
              case rel => exact ⟨a + bb, by go_num, by go_num, by omega, Nat.le_refl _, HQ2, S6⟩
            · have hlez : ¬ (a : Int) + (bb : Int) ≤ (N : Int) := by omega
              by_cases hm : a + bs < N
              · have hmz : (a : Int) + (bs : Int) < (N : Int) := by omega
                go_wp2_with fail
                obtain ⟨z, h1, h2, h3, h4, h5⟩ := S5.out
                obtain ⟨p, x, r', hz, hp, hx, hr⟩ := part3 z a (a + bs) (by omega) (by omega)
                have hsx : Srt cf x := by
                  obtain ⟨q, hq⟩ := HQ.out
                  rw [hz] at h5
                  exact RunsIn.srt (r := r') hb0 (q := 2 * q) (by rw [hp, hq, HBB.out, ← Nat.two_mul, Nat.mul_comm 2 bs, Nat.mul_assoc]) (by omega) (Nat.le_of_eq hp.symm) (show p.length + x.length ≤ N by omega) h5
                have hsy : Srt cf r' := by
                  obtain ⟨q, hq⟩ := HQ.out
                  have h6 : RunsIn cf a N bs ((p ++ x) ++ r' ++ []) := by rw [List.append_nil, ← hz]; exact h5
                  exact RunsIn.srt (p := p ++ x) hb0 (q := 2 * q + 1) (by rw [List.length_append, hp, hx, hq, HBB.out, ← Nat.two_mul, Nat.mul_comm 2 bs, Nat.mul_assoc]; rfl) (by omega) (by rw [List.length_append]; omega) (by rw [List.length_append]; omega) h6
                have hc := symMerge_any enc cf hO g cb eg blk off cap N d0 w0 HC.out k S0.out.2.2.2 R S0.out.2.2.1 (by omega) _ a (a + bs) N p x r' [] z wr (Nat.le_refl _) (by rw [hz]; simp) h2 h1 hp hx (by omega) (by omega) (by omega) hsx hsy
                have q1 : ((a + bs : Nat) : Int) = (a : Int) + (bs : Int) := by omega
                rw [q1] at hc
                refine hc.mono ?_
                rintro e w2 ⟨rfl, v, g1, g2, g3⟩
                have S6 : Aside (∃ z : List α, SWK enc k w0 blk off z.toArray w2 ∧ z.length = N ∧ z.Perm l ∧ RunsIn cf 0 N bb z) := by
                  obtain ⟨q, hq⟩ := HQ.out
                  have hvl : v.length = (x ++ r').length := g3.length_eq
                  have hz2 : z = p ++ (x ++ r') ++ [] := by rw [hz]; simp
                  have hxy : p.length + (x ++ r').length = N := by rw [List.length_append]; omega
                  refine ⟨p ++ v ++ [], g1, ?_, ?_, ?_⟩
                  · rw [← h2, hz2]; simp only [List.length_append, hvl]
                  · refine List.Perm.trans ?_ h3
                    rw [hz2]
                    exact List.Perm.append_right [] (List.Perm.append_left p g3)
                  · have := RunsIn.put (x := x ++ r') (r := []) hO (by omega : 0 < bb) (by rw [hp]; exact hq) hvl g2 (by rw [hp, ← hz2]; exact h4)
                    rw [hxy] at this
                    exact this
                clear h1 h2 h3 h4 h5 hz hp hx hr hsx hsy hc g1 g2 g3 HQ S5
                go_wp2
                go_roundg (N - bb)
                case measure => omega
                case rel => exact ⟨bb, by go_num, by omega, by omega, Nat.le_refl _, S6⟩
              · have hmz : ¬ (a : Int) + (bs : Int) < (N : Int) := by omega
                have S6 : Aside (∃ z : List α, SWK enc k w0 blk off z.toArray wr ∧ z.length = N ∧ z.Perm l ∧ RunsIn cf 0 N bb z) := by
                  obtain ⟨z, h1, h2, h3, h4, h5⟩ := S5.out
                  obtain ⟨q, hq⟩ := HQ.out
                  exact ⟨z, h1, h2, h3, RunsIn.join (by omega : 0 < bb) hq h4 (h5.one hb0 (q := 2 * q) (by rw [hq, HBB.out, ← Nat.two_mul, Nat.mul_comm 2 bs, Nat.mul_assoc]) (by omega) bb)⟩
                clear S5 HQ
                go_wp2
                go_roundg (N - bb)
                case measure => omega
                case rel => exact ⟨bb, by go_num, by omega, by omega, Nat.le_refl _, S6⟩
        · have hbNz : ¬ (bs : Int) < (N : Int) := by omega
          go_wp2
          go_end0
          obtain ⟨z, h1, h2, h3, h4⟩ := S3.out
          exact ⟨rfl, z, h1, RunsIn.all (bs := bs) (by rw [h2]; exact h4) (by omega), h3⟩
end Go.Proofs.Ts
/- Suggestions: their order (distance, documents falling, term), and the function that compares two. Conditions: those that each theorem names. -/
set_option linter.unusedVariables false
set_option linter.unusedSimpArgs false
namespace Go.Proofs.Ts
open Go Go.Shelf Go.RowKit Go.Sort

structure Sug where
  term : List UInt8
  far : Nat
  docs : Nat
  deriving Inhabited, DecidableEq

def encSug (s : Sug) : List Value := [strV s.term, .int .i64 s.far, .int .i64 s.docs]
def cmpB (x y : List UInt8) : Int := if x < y then -1 else if y < x then 1 else 0

theorem isNaN_str (x : List UInt8) (w : World) : Calls Tryz.prog 97 #[strV x] w fun e w' => e = .returned (.bool false) ∧ w' = w := by
  unfold strV
  go_enter Tryz.func97, Tryz.ntmps97
  go_wp2_with fail
  go_ret
  exact ⟨rfl, rfl⟩
theorem cmp_str (x y : List UInt8) (w : World) : Calls Tryz.prog 62 #[strV x, strV y] w fun e w' => e = .returned (.int .i64 (cmpB x y)) ∧ w' = w := by
  have hx := isNaN_str x
  have hy := isNaN_str y
  unfold strV at hx hy ⊢
  go_enter Tryz.func62, Tryz.ntmps62
  go_wp2_with fail
  refine (hx _).mono ?_
  rintro e w1 ⟨rfl, hw1⟩
  subst hw1
  go_wp2_with fail
  refine (hy _).mono ?_
  rintro e w1 ⟨rfl, hw1⟩
  subst hw1
  clear hx hy
  go_upto_region 9 with fail
  by_cases h : x < y
  · have hb : Op.bytesLess x y = true := by rw [bytesLess_eq]; exact decide_eq_true h
    go_wp2_with fail
    go_ret
    exact ⟨by rw [cmpB, if_pos h]; rfl, rfl⟩
  · have hb : Op.bytesLess x y = false := by rw [bytesLess_eq]; exact decide_eq_false h
    by_cases he : x = y
    · subst he
      go_wp2_with fail
      go_ret
      exact ⟨by rw [cmpB, if_neg h, if_neg h]; rfl, rfl⟩
    · have hbe : (!x == y) = true := by simpa using he
      have hyx : y < x := by
        rcases List.le_iff_lt_or_eq.1 (List.not_lt.1 h) with k | k
        · exact k
        · exact absurd k.symm he
      go_wp2_with fail
      go_ret
      exact ⟨by rw [cmpB, if_neg h, if_pos hyx]; rfl, rfl⟩

/-! ### cmp.Or at three numbers in a row of their own -/
theorem or3_any (g cap : Nat) (x y z : Int) (w : World) (hx : w.cell? ⟨g, 0, none⟩ = some (.int .i64 x)) (hy : w.cell? ⟨g, 1, none⟩ = some (.int .i64 y)) (hz : w.cell? ⟨g, 2, none⟩ = some (.int .i64 z)) :
    Calls Tryz.prog 60 #[.slice (some ⟨g, 0, none⟩) 3 cap] w fun e w' => e = .returned (.int .i64 (if x ≠ 0 then x else if y ≠ 0 then y else z)) ∧ Same w w' := by
  go_enter Tryz.func60, Tryz.ntmps60
  go_wp2
  go_loopg [8, 5] 3 (fun kx s8 s5 wr => ∃ i : Nat, s8 = .int .i64 i ∧ i ≤ 3 ∧ 3 - i ≤ kx ∧ Same w wr ∧ (0 < i → x = 0) ∧ (1 < i → y = 0) ∧ (2 < i → z = 0))
  case atStart => exact ⟨0, rfl, by omega, by omega, Same.refl _, by omega, by omega, by omega⟩
  case round =>
    obtain ⟨i, rfl, hi, hk, hS, h1, h2, h3⟩ := hrel
    have HS := Lib.hid hS
    rw [← hS.cell] at hx hy hz
    have hfin : i = 3 → Hid (x = 0 ∧ y = 0 ∧ z = 0) := fun h => ⟨h1 (by omega), h2 (by omega), h3 (by omega)⟩
    rcases (by omega : i = 0 ∨ i = 1 ∨ i = 2 ∨ i = 3) with rfl | rfl | rfl | rfl
    · clear h1 h2 h3 hfin hS
      by_cases hv : x = 0
      · go_wp2_with fail
        go_roundg 2
        case measure => omega
        case rel => exact ⟨1, by go_num, by omega, by omega, HS.out, fun _ => hv, by omega, by omega⟩
      · have hvb : (x == 0) = false := by simpa using hv
        go_wp2_with fail
        (try simp only [Exit.inBlock, Exit.then, Exit.noGoto_ret]); go_ret
        exact ⟨by rfl, HS.out⟩
    · have hx0 := h1 (by omega)
      clear h1 h2 h3 hfin hS
      by_cases hv : y = 0
      · go_wp2_with fail
        go_roundg 1
        case measure => omega
        case rel => exact ⟨2, by go_num, by omega, by omega, HS.out, fun _ => hx0, fun _ => hv, by omega⟩
      · have hvb : (y == 0) = false := by simpa using hv
        go_wp2_with fail
        (try simp only [Exit.inBlock, Exit.then, Exit.noGoto_ret]); go_ret
        exact ⟨by rfl, HS.out⟩
    · have hx0 := h1 (by omega)
      have hy0 := h2 (by omega)
      clear h1 h2 h3 hfin hS
      by_cases hv : z = 0
      · go_wp2_with fail
        go_roundg 0
        case measure => omega
        case rel => exact ⟨3, by go_num, by omega, by omega, HS.out, fun _ => hx0, fun _ => hy0, fun _ => hv⟩
      · have hvb : (z == 0) = false := by simpa using hv
        go_wp2_with fail
        (try simp only [Exit.inBlock, Exit.then, Exit.noGoto_ret]); go_ret
        exact ⟨by rfl, HS.out⟩
    · obtain ⟨hx0, hy0, hz0⟩ := (hfin rfl).out
      clear h1 h2 h3 hfin hS
      go_wp2_with fail
      (try simp only [Exit.inBlock, Exit.then, Exit.noGoto_ret]); go_ret
      exact ⟨by first | rfl | (rw [hx0, hy0, hz0]; rfl), HS.out⟩

/-- The order of suggestions. -/
def sugCmp (a b : Sug) : Int :=
  if Lib.compareInt a.far b.far ≠ 0 then Lib.compareInt a.far b.far else if Lib.compareInt b.docs a.docs ≠ 0 then Lib.compareInt b.docs a.docs else cmpB a.term b.term

def sugLt (a b : Sug) : Prop := a.far < b.far ∨ a.far = b.far ∧ (b.docs < a.docs ∨ b.docs = a.docs ∧ a.term < b.term)
theorem cmpB_neg {x y : List UInt8} : cmpB x y < 0 ↔ x < y := by
  unfold cmpB
  split
  · simp_all
  · split <;> simp_all
theorem cmpI_neg {x y : Nat} : Lib.compareInt (x : Int) y < 0 ↔ x < y := by
  unfold Lib.compareInt
  split
  · simp; omega
  · split <;> simp <;> omega
theorem cmpI_zero {x y : Nat} : Lib.compareInt (x : Int) y = 0 ↔ x = y := by
  unfold Lib.compareInt
  split
  · simp; omega
  · split <;> simp <;> omega
theorem sug_neg (a b : Sug) : sugCmp a b < 0 ↔ sugLt a b := by
  unfold sugCmp sugLt
  by_cases h1 : a.far = b.far
  · rw [if_neg (by rw [Decidable.not_not]; exact cmpI_zero.2 h1)]
    by_cases h2 : b.docs = a.docs
    · rw [if_neg (by rw [Decidable.not_not]; exact cmpI_zero.2 h2), cmpB_neg]
      constructor
      · exact fun h => .inr ⟨h1, .inr ⟨h2, h⟩⟩
      · rintro (h | ⟨_, h | ⟨_, h⟩⟩)
        · omega
        · omega
        · exact h
    · rw [if_pos (fun h => h2 (cmpI_zero.1 h)), cmpI_neg]
      constructor
      · exact fun h => .inr ⟨h1, .inl h⟩
      · rintro (h | ⟨_, h | ⟨h, _⟩⟩)
        · omega
        · exact h
        · exact absurd h h2
  · rw [if_pos (fun h => h1 (cmpI_zero.1 h)), cmpI_neg]
    constructor
    · exact fun h => .inl h
    · rintro (h | ⟨h, _⟩)
      · exact h
      · exact absurd h h1

theorem sugLt_irrefl (a : Sug) : ¬ sugLt a a := by
  rintro (h | ⟨_, h | ⟨_, h⟩⟩)
  · omega
  · omega
  · exact List.lt_irrefl _ h
theorem sugLt_trans {a b c : Sug} (h : sugLt a b) (k : sugLt b c) : sugLt a c := by
  unfold sugLt at *
  rcases h with h | ⟨h1, h | ⟨h2, h⟩⟩ <;> rcases k with k | ⟨k1, k | ⟨k2, k⟩⟩
  · left; omega
  · left; omega
  · left; omega
  · left; omega
  · right; exact ⟨by omega, .inl (by omega)⟩
  · right; exact ⟨by omega, .inl (by omega)⟩
  · left; omega
  · right; exact ⟨by omega, .inl (by omega)⟩
  · right; exact ⟨by omega, .inr ⟨by omega, List.lt_trans h k⟩⟩
theorem sugLt_tri (a b : Sug) : sugLt a b ∨ a = b ∨ sugLt b a := by
  unfold sugLt
  rcases Nat.lt_trichotomy a.far b.far with h | h | h
  · exact .inl (.inl h)
  · rcases Nat.lt_trichotomy b.docs a.docs with k | k | k
    · exact .inl (.inr ⟨h, .inl k⟩)
    · by_cases e : a.term = b.term
      · right; left; cases a; cases b; simp_all
      · by_cases l : a.term < b.term
        · exact .inl (.inr ⟨h, .inr ⟨k, l⟩⟩)
        · right; right; right
          refine ⟨h.symm, .inr ⟨k.symm, ?_⟩⟩
          rcases List.le_iff_lt_or_eq.1 (List.not_lt.1 l) with m | m
          · exact m
          · exact absurd m.symm e
    · exact .inr (.inr (.inr ⟨h.symm, .inl k⟩))
  · exact .inr (.inr (.inl h))
theorem sug_swo : SWO (ltOf sugCmp) where
  irrefl x := by unfold ltOf; rw [decide_eq_false_iff_not, sug_neg]; exact sugLt_irrefl x
  trans x y z h k := by
    unfold ltOf at *
    rw [decide_eq_true_eq, sug_neg] at *
    exact sugLt_trans h k
  ntrans x y z h k := by
    unfold ltOf at *
    rw [decide_eq_false_iff_not, sug_neg] at *
    intro hxz
    rcases sugLt_tri x y with e | e | e
    · exact h e
    · subst e; exact k hxz
    · exact k (sugLt_trans e hxz)
end Go.Proofs.Ts
/- As TsOrd, but among the operations that only read may stand calls, if each leaves the very world that it found. No program of its own. -/
set_option linter.unusedSectionVars false
set_option linter.unusedVariables false
set_option linter.unusedSimpArgs false
namespace Go.Proofs.Ts
open Go Go.RowKit

section
variable {P : Program} {ops : Array Oper} {S : World → Prop} {Q : Exit → Act → World → Prop}

/-- One value in every world of the class, and that world stays; or it is not wanted. -/
def YieldsS (P : Program) (ops : Array Oper) (S : World → Prop) (o : Oper) (v : Value) (a : Act) : Prop :=
  (Region.wanted o (yielded ops a.tmps) = true ∧ ∀ w, S w → o.quietAt P a (fun u => u = w) w v) ∨
  (Region.wanted o (yielded ops a.tmps) = false ∧ v = undef)

theorem YieldsS.of_same {o : Oper} {v : Value} {a a' : Act} (hy : YieldsS P ops S o v a) (he : execOp a'.eval o = execOp a.eval o)
    (hw : Region.wanted o (yielded ops a'.tmps) = Region.wanted o (yielded ops a.tmps)) : YieldsS P ops S o v a' := by
  unfold YieldsS Oper.quietAt at *
  rw [he, hw]
  exact hy

theorem YieldsS.wpOp {i : Nat} {o : Oper} {v : Value} {a : Act} (hi : ops[i]? = some o) (hy : YieldsS P ops S o v a)
    {K : Act → World → Prop} {w : World} (hS : S w) (h : K (a.put o.dst v) w) : wpOp P ops Q i K a w := by
  unfold Go.wpOp
  simp only [hi]
  rcases hy with ⟨hw, hv⟩ | ⟨hw, rfl⟩
  · simp only [hw, if_true]
    refine .inl (Oper.wp_of_quiet (C := fun u => u = w) (K := fun a' => K a' w) rfl (fun a' w' hw' hk => by subst hw'; exact hk) ⟨v, fun u hu => ?_, h⟩)
    subst hu
    exact hv u hS
  · simp only [hw, Bool.false_eq_true, if_false]; exact h

theorem wpOp_putS {j : Nat} {oi oj : Oper} {v : Value} (hj : ops[j]? = some oj) (hap : oi.apart ops oj = true)
    (hsi : ∀ cs b, oi.op ≠ .select cs b) (hsj : ∀ cs b, oj.op ≠ .select cs b)
    (hQ : ∀ c a w, Q (.panic c) (a.put oi.dst v) w → Q (.panic c) a w) {K : Act → World → Prop} {a : Act} {w : World}
    (hy : YieldsS P ops S oi v a) (h : wpOp P ops Q j K (a.put oi.dst v) w) :
    wpOp P ops Q j (fun a' w' => YieldsS P ops S oi v a' ∧ K (a'.put oi.dst v) w') a w := by
  obtain ⟨h1, h2, h3⟩ := Oper.apart_spec hap
  have keep : ∀ (a : Act), YieldsS P ops S oi v a → ∀ u, YieldsS P ops S oi v (a.put oj.dst u) := fun a hy u =>
    hy.of_same (execOp_put oi hsi a oj.dst u h3) (wanted_put oi a oj.dst u h3)
  have keepD : ∀ d, YieldsS P ops S oi v { a with defers := d :: a.defers } := fun d => hy.of_same rfl rfl
  unfold wpOp at *
  simp only [hj] at *
  rw [wanted_put oj a oi.dst v h1] at h
  split
  · rename_i hw
    simp only [hw, if_true] at h
    rcases h with h | ⟨hasks, hlets⟩
    case inr => exact .inr ⟨by unfold Oper.asks at *; rw [execOp_put oj hsj a oi.dst v h1] at hasks; exact hasks, hlets⟩
    refine .inl ?_
    unfold Oper.wp at *
    rw [execOp_put oj hsj a oi.dst v h1] at h
    generalize (execOp a.eval oj).run P w = r at *
    cases r with
    | ok n w' =>
      cases n <;> simp only [Oper.upon] at h ⊢
      case value u => exact ⟨keep a hy u, by rw [← Act.put_comm a v u h2]; exact h⟩
      case skip => exact ⟨keep a hy _, by rw [← Act.put_comm a v undef h2]; exact h⟩
      case defer d =>
        refine ⟨keep _ (keepD d) _, ?_⟩
        rw [← Act.put_comm _ v undef h2, ← Act.put_defers]
        exact h
      case enter f args =>
        refine Calls.mono h fun e w'' he => ?_
        cases e with
        | returned u => exact ⟨keep a hy u, by rw [← Act.put_comm a v u h2]; exact he⟩
        | panicked c => exact hQ _ _ _ he
        | outgrown => exact he
      case row row args => exact Rows.mono h fun u w'' he => ⟨keep a hy u, by rw [← Act.put_comm a v u h2]; exact he⟩
    | halt x w' =>
      cases x <;> simp only [Oper.upon] at h ⊢
      case panic u => exact hQ _ _ _ h
  · rename_i hw
    simp only [hw] at h
    exact ⟨keep a hy _, by rw [← Act.put_comm a v undef h2]; exact h⟩

/-- The operations in the order of a list: 'true': one that may write; 'false': one that reads the same wherever S holds (a call too). -/
def wpOrdS (P : Program) (l : List Oper) (S : World → Prop) (x : Nat) (Q : Act → World → Prop) : List (Nat × Bool) → Act → World → Prop
  | [], a, w => Q a w
  | (i, true) :: rest, a, w =>
    match l[i]? with
    | none => False
    | some o => if Region.wanted o (yielded l.toArray a.tmps) then o.wp P a w (fun a' w' => (i ≠ x → S w') ∧ ((i = x → rest = []) ∧ wpOrdS P l S x Q rest a' w')) (NoPanic fun _ _ _ => False) else wpOrdS P l S x Q rest (a.put o.dst undef) w
  | (i, false) :: rest, a, w =>
    match l[i]? with
    | none => False
    | some o => ∃ v, YieldsS P l.toArray S o v a ∧ wpOrdS P l S x Q rest (a.put o.dst v) w

/-- A reader that may come up may be taken first. -/
theorem anyS_first {x i : Nat} {oi : Oper} {v : Value} (hx : waitsB ops x i = true) (hi : ops[i]? = some oi) (hsel : Region.noSelect ops = true)
    (hQ : ∀ c a w, Q (.panic c) (a.put oi.dst v) w → Q (.panic c) a w) :
    ∀ (n : Nat) (listed : Array Bool) (a : Act) (w : World),
      (∀ j oj, ops[j]? = some oj → j ≠ i → listed.getD j true = false → (∀ e ∈ oj.after, Region.binds .any e = true → e.on ≠ i) → oi.apart ops oj = true) →
      i ∈ Region.ready .any ops listed → YieldsS P ops S oi v a → S w →
      anyX P ops Q S x n (listed.setIfInBounds i true) (a.put oi.dst v) w → anyX P ops Q S x (n + 1) listed a w := by
  intro n
  induction n with
  | zero =>
    intro listed a w _ hr hy hS H
    refine ⟨fun h => (by rw [h] at hr; cases hr), fun j hj => ?_⟩
    by_cases hji : j = i
    · subst hji; exact hy.wpOp hi hS ⟨fun _ => hS, H⟩
    · have hc := ready_mono hj hji
      rw [H.1] at hc
      cases hc
  | succ n ih =>
    intro listed a w hfree hr hy hS H
    refine ⟨fun h => (by rw [h] at hr; cases hr), fun j hj => ?_⟩
    by_cases hji : j = i
    · subst hji; exact hy.wpOp hi hS ⟨fun _ => hS, H⟩
    · have hjx : j ≠ x := by
        rintro rfl
        have h1 := waitsB_listed hx hj
        rw [unlisted_of_ready hr] at h1
        cases h1
      have h1 := H.2 j (ready_mono hj hji)
      obtain ⟨hjun, oj, hoj, hall⟩ := mem_ready.1 hj
      have hnot : ∀ e ∈ oj.after, Region.binds .any e = true → e.on ≠ i := fun e he hb heq => by
        have h2 := hall e he hb
        rw [heq, unlisted_of_ready hr] at h2
        cases h2
      have h2 := wpOp_putS hoj (hfree j oj hoj hji hjun hnot) (fun cs b => Region.noSelect_spec hsel i oi cs b hi) (fun cs b => Region.noSelect_spec hsel j oj cs b hoj) hQ hy h1
      have hfree' : ∀ k ok, ops[k]? = some ok → k ≠ i → (listed.setIfInBounds j true).getD k true = false → (∀ e ∈ ok.after, Region.binds .any e = true → e.on ≠ i) → oi.apart ops ok = true := fun k ok hk hki hun hno => by
        refine hfree k ok hk hki ?_ hno
        by_cases hjk : j = k
        · subst hjk; exact hjun
        · rw [getD_set_ne true hjk] at hun; exact hun
      refine wpOp_mono (fun a' w' h3 => ⟨fun _ => h3.2.1 hjx, ih (listed.setIfInBounds j true) a' w' hfree' (ready_mono hr (Ne.symm hji)) h3.1 (h3.2.1 hjx) ?_⟩) h2
      rw [Array.setIfInBounds_comm _ _ hji]
      exact h3.2.2

theorem anyS_of_ord {lo : List Oper} {x : Nat} (hs : Region.noSelect lo.toArray = true) {Q' : Exit → Act → World → Prop} (hQ : ∀ a w, Q .normal a w → Q' .normal a w) (hp : ∀ c a w, ¬ Q' (.panic c) a w) :
    ∀ (l : List (Nat × Bool)) (listed : Array Bool) (a : Act) (w : World), (∀ q ∈ l, q.2 = false → waitsB lo.toArray x q.1 = true) →
    ordB lo.toArray l listed = true → S w → wpOrdS P lo S x (Q .normal) l a w → anyX P lo.toArray Q' S x l.length listed a w
  | [], listed, a, w, _, hB, _, h => by
    simp only [ordB, beq_iff_eq] at hB
    exact ⟨hB, hQ _ _ h⟩
  | (i, true) :: rest, listed, a, w, hl, hB, hS, h => by
    simp only [ordB, Bool.and_eq_true, beq_iff_eq] at hB
    obtain ⟨hr, hB'⟩ := hB
    have ih := anyS_of_ord (x := x) hs hQ hp rest (listed.setIfInBounds i true)
    refine ⟨fun h0 => (by rw [hr] at h0; cases h0), fun j hj => ?_⟩
    rw [hr] at hj
    obtain rfl : j = i := by simpa using hj
    unfold wpOrdS at h
    unfold wpOp
    split at h
    · exact h.elim
    · rename_i o ho
      have ho' : lo.toArray[j]? = some o := by simpa using ho
      simp only [ho']
      split
      · rename_i hw
        rw [if_pos hw] at h
        refine .inl ?_
        refine Oper.wp_mono (K := fun a' w' => (j ≠ x → S w') ∧ ((j = x → rest = []) ∧ wpOrdS P lo S x (Q .normal) rest a' w')) (fun a' w' hh => ⟨hh.1, ?_⟩) ?_
        · by_cases hjx : j = x
          · have := hh.2.1 hjx
            subst this
            simp only [ordB, beq_iff_eq] at hB'
            exact ⟨hB', hQ _ _ hh.2.2⟩
          · exact ih a' w' (fun q hq => hl q (List.mem_cons_of_mem _ hq)) hB' (hh.1 hjx) hh.2.2
        · unfold Oper.wp at h ⊢
          generalize (execOp a.eval o).run P w = r at *
          cases r with
          | ok n w' =>
            cases n <;> simp only [Oper.upon] at h ⊢
            case value => exact h
            case skip => exact h
            case defer => exact h
            case row => exact h
            case enter f args =>
              refine Calls.mono h fun e w'' he => ?_
              cases e with
              | returned v => exact he
              | panicked c => exact he.elim
              | outgrown => obtain ⟨_, _, hx⟩ := he; exact hx.elim
            all_goals exact h
          | halt x w' =>
            cases x <;> simp only [Oper.upon] at h ⊢
            all_goals exact h.elim
      · rename_i hw
        rw [if_neg hw] at h
        exact ⟨fun _ => hS, ih _ _ (fun q hq => hl q (List.mem_cons_of_mem _ hq)) hB' hS h⟩
  | (i, false) :: rest, listed, a, w, hl, hB, hS, h => by
    simp only [ordB, Bool.and_eq_true] at hB
    obtain ⟨⟨hr, hf⟩, hB'⟩ := hB
    have ih := anyS_of_ord (x := x) hs hQ hp rest (listed.setIfInBounds i true)
    unfold wpOrdS at h
    split at h
    · exact h.elim
    · rename_i o ho
      obtain ⟨v, hy, hk⟩ := h
      have ho' : lo.toArray[i]? = some o := by simpa using ho
      exact anyS_first (hl (i, false) List.mem_cons_self rfl) ho' hs (fun c a w hq => (hp _ _ _ hq).elim) rest.length listed a w (Region.free_spec ho' hf) (by simpa using hr) hy hS (ih _ _ (fun q hq => hl q (List.mem_cons_of_mem _ hq)) hB' hS hk)

/-- ONE ORDER FOR ALL: x: an operation that waits for all others, behind which the class need not be met (or the number of operations: none). -/
theorem wp_region_ordSX {id : Nat} {a : Act} {w : World} {l : List Oper} (order : List (Nat × Bool)) (x : Nat) (S : World → Prop) (hm : P.follows .mixedOrders = true)
    (hs : (Region.noSelect l.toArray && (order.all fun q => q.2 || waitsB l.toArray x q.1) && (order.length == l.length) && ordB l.toArray order (Array.replicate l.length false)) = true) (hS : S w.drew)
    (h : wpOrdS P l S x (Q .normal) order a w.drew) : (Code.region id l.toArray true).wp P Q a w := by
  simp only [Bool.and_eq_true, beq_iff_eq] at hs
  obtain ⟨⟨⟨h1, h3⟩, h4⟩, h5⟩ := hs
  have h3' : ∀ q ∈ order, q.2 = false → waitsB l.toArray x q.1 = true := fun q hq hf => by
    have := List.all_eq_true.1 h3 q hq
    rw [hf] at this
    simpa using this
  refine wp_region_noPanic (wp_region_any hm (wpAny_of_anyX (S := S) (x := x) _ _ _ _ ?_))
  have := anyS_of_ord (Q := Q) (Q' := NoPanic Q) h1 (fun _ _ h => h) (fun _ _ _ h => h) order (Array.replicate l.length false) a w.drew h3' h5 hS h
  rw [h4] at this
  simpa using this
theorem wp_region_ordS {id : Nat} {a : Act} {w : World} {l : List Oper} (order : List (Nat × Bool)) (S : World → Prop) (hm : P.follows .mixedOrders = true)
    (hs : (Region.noSelect l.toArray && (order.all fun q => q.2 || waitsB l.toArray 1000 q.1) && (order.length == l.length) && ordB l.toArray order (Array.replicate l.length false)) = true) (hS : S w.drew)
    (h : wpOrdS P l S 1000 (Q .normal) order a w.drew) : (Code.region id l.toArray true).wp P Q a w := wp_region_ordSX order 1000 S hm hs hS h

theorem wpOrdS_nil {l : List Oper} {x : Nat} {Q : Act → World → Prop} {a : Act} {w : World} (h : Q a w) : wpOrdS P l S x Q [] a w := h
theorem wpOrdS_quiet {l : List Oper} {x : Nat} {Q : Act → World → Prop} {i : Nat} {rest : List (Nat × Bool)} {a : Act} {w : World} {o : Oper} (v : Value) (ho : l[i]? = some o) (hw : Region.wanted o (yielded l.toArray a.tmps) = true)
    (hv : ∀ w', S w' → o.quietAt P a (fun u => u = w') w' v) (h : wpOrdS P l S x Q rest (a.put o.dst v) w) : wpOrdS P l S x Q ((i, false) :: rest) a w := by
  unfold wpOrdS
  rw [ho]
  exact ⟨v, .inl ⟨hw, hv⟩, h⟩
theorem wpOrdS_skip {l : List Oper} {x : Nat} {Q : Act → World → Prop} {i : Nat} {rest : List (Nat × Bool)} {a : Act} {w : World} {o : Oper} (ho : l[i]? = some o) (hw : Region.wanted o (yielded l.toArray a.tmps) = false)
    (h : wpOrdS P l S x Q rest (a.put o.dst undef) w) : wpOrdS P l S x Q ((i, false) :: rest) a w := by
  unfold wpOrdS
  rw [ho]
  exact ⟨undef, .inr ⟨hw, rfl⟩, h⟩
theorem wpOrdS_loud {l : List Oper} {x : Nat} {Q : Act → World → Prop} {i : Nat} {rest : List (Nat × Bool)} {a : Act} {w : World} {o : Oper} (ho : l[i]? = some o) (hw : Region.wanted o (yielded l.toArray a.tmps) = true)
    (hx : i ≠ x) (h : ∀ K : Act → World → Prop, (∀ a' w', S w' → wpOrdS P l S x Q rest a' w' → K a' w') → o.wp P a w K (NoPanic fun _ _ _ => False)) : wpOrdS P l S x Q ((i, true) :: rest) a w := by
  unfold wpOrdS
  rw [ho]
  simp only [hw, if_true]
  exact h _ fun a' w' h1 h2 => ⟨fun _ => h1, fun e => absurd e hx, h2⟩
theorem wpOrdS_last {l : List Oper} {x : Nat} {Q : Act → World → Prop} {a : Act} {w : World} {o : Oper} (ho : l[x]? = some o) (hw : Region.wanted o (yielded l.toArray a.tmps) = true)
    (h : ∀ K : Act → World → Prop, (∀ a' w', Q a' w' → K a' w') → o.wp P a w K (NoPanic fun _ _ _ => False)) : wpOrdS P l S x Q [(x, true)] a w := by
  unfold wpOrdS
  rw [ho]
  simp only [hw, if_true]
  exact h _ fun a' w' h2 => ⟨fun e => absurd rfl e, by simp, h2⟩
end
end Go.Proofs.Ts
/- The function that compares two suggestions. Conditions: those that each theorem names. -/
set_option linter.unusedVariables false
set_option linter.unusedSimpArgs false
namespace Go.Proofs.Ts
open Go Go.Shelf Go.RowKit Go.Sort

theorem calls_same {P : Program} {f : FuncId} {args : Array Value} {w : World} {v : Value} (h : Calls P f args w fun e w' => e = .returned v ∧ w' = w) : Calls P f args w fun e w'' => e = .returned v ∧ w'' = w := h

set_option maxHeartbeats 1000000 in
set_option maxRecDepth 1000000 in
theorem sugCmp_any (a b : Sug) (w : World) :
    Calls Tryz.prog 59 #[.agg (encSug a).toArray, .agg (encSug b).toArray] w fun e w' => e = .returned (.int .i64 (sugCmp a b)) ∧ ∃ q os', w' = grow (w.drewN q) os' := by
  obtain ⟨t1, f1, d1⟩ := a
  obtain ⟨t2, f2, d2⟩ := b
  obtain ⟨V1, hV1⟩ : ∃ V, V = Lib.compareInt (f1 : Int) f2 := ⟨_, rfl⟩
  obtain ⟨V2, hV2⟩ : ∃ V, V = Lib.compareInt (d2 : Int) d1 := ⟨_, rfl⟩
  obtain ⟨V3, hV3⟩ : ∃ V, V = cmpB t1 t2 := ⟨_, rfl⟩
  have hres : sugCmp ⟨t1, f1, d1⟩ ⟨t2, f2, d2⟩ = if V1 ≠ 0 then V1 else if V2 ≠ 0 then V2 else V3 := by rw [hV1, hV2, hV3]; rfl
  have C1 : Hid (∀ W : World, Calls Tryz.prog 61 #[.int .i64 f1, .int .i64 f2] W fun e w' => e = .returned (.int .i64 V1) ∧ w' = W) := Lib.hid (by rw [hV1]; exact fun W => Tryz.cmp_Compare_int f1 f2 W)
  have C2 : Hid (∀ W : World, Calls Tryz.prog 61 #[.int .i64 d2, .int .i64 d1] W fun e w' => e = .returned (.int .i64 V2) ∧ w' = W) := Lib.hid (by rw [hV2]; exact fun W => Tryz.cmp_Compare_int d2 d1 W)
  have C3 : Hid (∀ W : World, Calls Tryz.prog 62 #[strV t1, strV t2] W fun e w' => e = .returned (.int .i64 V3) ∧ w' = W) := Lib.hid (by rw [hV3]; exact fun W => cmp_str t1 t2 W)
  have HRES := Lib.hid hres
  clear hV1 hV2 hV3 hres
  obtain ⟨s1, hs1⟩ : ∃ s, s = strV t1 := ⟨_, rfl⟩
  obtain ⟨s2, hs2⟩ : ∃ s, s = strV t2 := ⟨_, rfl⟩
  unfold encSug
  simp only
  rw [← hs1, ← hs2]
  rw [← hs1, ← hs2] at C3
  have HSV := Lib.hid (show s1 = strV t1 ∧ s2 = strV t2 from ⟨hs1, hs2⟩)
  clear hs1 hs2
  go_enter Tryz.func59, Tryz.ntmps59
  go_wp2_with fail
  obtain ⟨W, hW⟩ : ∃ W, W = (w.alloc (Obj.cells #[s1, .int .i64 f1, .int .i64 d1] 59)).alloc (Obj.cells #[s2, .int .i64 f2, .int .i64 d2] 59) := ⟨_, rfl⟩
  rw [← hW]
  have hsz : W.heap.size = w.heap.size + 2 := by rw [hW]; simp
  have a0 : W.cell? ⟨w.heap.size, 0, none⟩ = some s1 := by rw [hW]; simp
  have a1 : W.cell? ⟨w.heap.size, 1, none⟩ = some (.int .i64 f1) := by rw [hW]; simp
  have a2 : W.cell? ⟨w.heap.size, 2, none⟩ = some (.int .i64 d1) := by rw [hW]; simp
  have b0 : W.cell? ⟨w.heap.size + 1, 0, none⟩ = some s2 := by rw [hW]; simp
  have b1 : W.cell? ⟨w.heap.size + 1, 1, none⟩ = some (.int .i64 f2) := by rw [hW]; simp
  have b2 : W.cell? ⟨w.heap.size + 1, 2, none⟩ = some (.int .i64 d2) := by rw [hW]; simp
  have HW := Lib.hid (show W = (w.alloc (Obj.cells #[s1, .int .i64 f1, .int .i64 d1] 59)).alloc (Obj.cells #[s2, .int .i64 f2, .int .i64 d2] 59) from hW)
  have HSZ := Lib.hid hsz
  clear hW hsz
  obtain ⟨H, hH⟩ : ∃ H, H = w.heap.size := ⟨_, rfl⟩
  rw [← hH] at a0 a1 a2 b0 b1 b2 HSZ ⊢
  have HH := Lib.hid hH
  clear hH
  refine wp_region_ordS [(0, false), (1, false), (2, false), (3, false), (4, false), (5, false), (6, false), (7, false), (8, false), (9, false), (10, false), (11, false), (12, false), (13, false), (14, false), (15, true), (16, true), (17, true)]
    (fun u => (u.cell? ⟨H, 0, none⟩ = some s1 ∧ u.cell? ⟨H, 1, none⟩ = some (.int .i64 f1) ∧ u.cell? ⟨H, 2, none⟩ = some (.int .i64 d1)) ∧ u.cell? ⟨H + 1, 0, none⟩ = some s2 ∧ u.cell? ⟨H + 1, 1, none⟩ = some (.int .i64 f2) ∧ u.cell? ⟨H + 1, 2, none⟩ = some (.int .i64 d2))
    (by kernel_rfl) (by kernel_rfl) ⟨⟨a0, a1, a2⟩, b0, b1, b2⟩ ?_
  iterate 15 (
    refine wpOrdS_quiet ?_ rfl rfl (fun w' hS => ?_) ?_
    rotate_left
    · obtain ⟨⟨c0, c1, c2⟩, d0, d1', d2'⟩ := hS
      unfold Oper.quietAt
      go_simp
      first
        | with_reducible exact ⟨rfl, rfl⟩
        | with_reducible exact C1.out _
        | with_reducible exact C2.out _
        | with_reducible exact C3.out _
        | rfl | done
    simp only [put_lit, List.set_cons_succ, List.set_cons_zero])
  refine wpOrdS_loud rfl rfl (by decide) (fun K hK => ?_)
  go_simp
  obtain ⟨W2, hW2⟩ : ∃ W2, W2 = (W.alloc (Obj.cells #[.int .i64 V1, .int .i64 V2, .int .i64 V3] 3)).drew := ⟨_, rfl⟩
  have hS2 : (W2.cell? ⟨H, 0, none⟩ = some s1 ∧ W2.cell? ⟨H, 1, none⟩ = some (.int .i64 f1) ∧ W2.cell? ⟨H, 2, none⟩ = some (.int .i64 d1)) ∧ W2.cell? ⟨H + 1, 0, none⟩ = some s2 ∧ W2.cell? ⟨H + 1, 1, none⟩ = some (.int .i64 f2) ∧ W2.cell? ⟨H + 1, 2, none⟩ = some (.int .i64 d2) := by
    have hk : ∀ (b o : Nat) v, W.cell? ⟨b, o, none⟩ = some v → W2.cell? ⟨b, o, none⟩ = some v := fun b o v h => by
      have hb : b < W.heap.size := lt_of_cell h
      rw [hW2]
      exact (World.cell?_alloc_old W (Obj.cells #[.int .i64 V1, .int .i64 V2, .int .i64 V3] 3) ⟨b, o, none⟩ (by show b ≠ _; omega)).trans h
    exact ⟨⟨hk _ _ _ a0, hk _ _ _ a1, hk _ _ _ a2⟩, hk _ _ _ b0, hk _ _ _ b1, hk _ _ _ b2⟩
  have e0 : W2.cell? ⟨W.heap.size, 0, none⟩ = some (.int .i64 V1) := by rw [hW2]; simp
  have e1 : W2.cell? ⟨W.heap.size, 1, none⟩ = some (.int .i64 V2) := by rw [hW2]; simp
  have e2 : W2.cell? ⟨W.heap.size, 2, none⟩ = some (.int .i64 V3) := by rw [hW2]; simp
  rw [← hW2]
  have HW2 := Lib.hid hW2
  have HS2 := Lib.hid hS2
  clear hW2 a0 a1 a2 b0 b1 b2
  refine hK _ _ hS2 ?_
  clear hK K
  refine wpOrdS_loud rfl rfl (by decide) (fun K hK => ?_)
  go_simp
  refine (or3_any W.heap.size 3 V1 V2 V3 W2 e0 e1 e2).mono ?_
  rintro e w3 ⟨rfl, hs3⟩
  have hS3 : (w3.cell? ⟨H, 0, none⟩ = some s1 ∧ w3.cell? ⟨H, 1, none⟩ = some (.int .i64 f1) ∧ w3.cell? ⟨H, 2, none⟩ = some (.int .i64 d1)) ∧ w3.cell? ⟨H + 1, 0, none⟩ = some s2 ∧ w3.cell? ⟨H + 1, 1, none⟩ = some (.int .i64 f2) ∧ w3.cell? ⟨H + 1, 2, none⟩ = some (.int .i64 d2) := by
    simp only [hs3.cell]; exact hS2
  rw [← HRES.out]
  refine hK _ _ hS3 ?_
  clear hK K
  refine wpOrdS_loud rfl rfl (by decide) (fun K hK => ?_)
  go_simp
  refine hK _ _ hS3 ?_
  clear hK K hS3 hS2 e0 e1 e2
  refine wpOrdS_nil ?_
  go_wp2_with fail
  go_ret
  refine ⟨rfl, ?_⟩
  obtain ⟨n, rfl⟩ := hs3
  refine ⟨1 + n, #[Obj.cells #[s1, .int .i64 f1, .int .i64 d1] 59, Obj.cells #[s2, .int .i64 f2, .int .i64 d2] 59, Obj.cells #[.int .i64 V1, .int .i64 V2, .int .i64 V3] 3], ?_⟩
  rw [HW2.out, HW.out, alloc_eq_grow, alloc_eq_grow, alloc_eq_grow, grow_grow, grow_grow]
  show (grow (w.drewN 1) _).drewN n = grow (w.drewN (1 + n)) _
  rw [← World.drewN_drewN]
  rfl
end Go.Proofs.Ts
/- slices.SortStableFunc on a row of suggestions that the call has built. Conditions: those that each theorem names. -/
set_option linter.unusedVariables false
set_option linter.unusedSimpArgs false
namespace Go.Proofs.Ts
open Go Go.Shelf Go.RowKit Go.Lib Go.Sort

/-- The cells of a row of suggestions. -/
def sugCells (l : List Sug) : List Value := l.flatMap encSug
theorem encSug_len (s : Sug) : (encSug s).length = 3 := rfl
theorem flatMap_len {α : Type} (enc : α → List Value) (k : Nat) (hk : ∀ x, (enc x).length = k) : ∀ l : List α, (l.flatMap enc).length = l.length * k
  | [] => by simp
  | a :: l => by rw [List.flatMap_cons, List.length_append, flatMap_len enc k hk l, hk, List.length_cons, Nat.add_mul, Nat.one_mul, Nat.add_comm]
theorem sugCells_len (l : List Sug) : (sugCells l).length = l.length * 3 := flatMap_len encSug 3 encSug_len l
theorem flatMap_get {α : Type} [Inhabited α] (enc : α → List Value) (k : Nat) (hk : ∀ x, (enc x).length = k) : ∀ (l : List α) (t : Nat), t < l.length * k → (l.flatMap enc)[t]? = some ((enc l[t / k]!)[t % k]!)
  | [], t, h => by simp at h
  | a :: l, t, h => by
    have k0 : 0 < k := by rcases Nat.eq_zero_or_pos k with e | e; · subst e; simp at h
                          · exact e
    rw [List.flatMap_cons]
    by_cases h1 : t < k
    · rw [List.getElem?_append_left (by rw [hk]; exact h1), Nat.div_eq_of_lt h1, Nat.mod_eq_of_lt h1]
      have : t < (enc a).length := by rw [hk]; exact h1
      simp [this]
    · obtain ⟨u, rfl⟩ : ∃ u, t = u + k := ⟨t - k, by omega⟩
      have hu : u < l.length * k := by rw [List.length_cons, Nat.add_mul, Nat.one_mul] at h; omega
      rw [List.getElem?_append_right (by rw [hk]; omega), hk, Nat.add_sub_cancel, flatMap_get enc k hk l u hu, Nat.add_div_right _ k0, Nat.add_mod_right]
      simp
theorem flatMap_flatK {α : Type} [Inhabited α] (enc : α → List Value) (k : Nat) (hk : ∀ x, (enc x).length = k) (l : List α) : (flatK enc k l.toArray).toList = l.flatMap enc := by
  have hlen := flatMap_len enc k hk l
  apply List.ext_getElem?
  intro t
  by_cases ht : t < l.length * k
  · rw [flatMap_get enc k hk l t ht, Array.getElem?_toList, getElem?_pos (flatK enc k l.toArray) t (by simpa using ht), ← getElem!_pos (flatK enc k l.toArray) t (by simpa using ht), get_flatK _ _ _ _ (by simpa using ht)]
    simp
  · rw [List.getElem?_eq_none (by simp; omega), List.getElem?_eq_none (by rw [hlen]; omega)]

/-- A row of the call's own, as the sort asks for it. -/
theorem holdsK_of_row {w : World} {g : Nat} {cur : Array Value} {e : TypeId} {l : List Sug} (hb : w.heap[g]? = some (.cells cur e (0, 0))) (ht : cur.toList.take (l.length * 3) = sugCells l) : HoldsK encSug 3 w g 0 l.toArray := by
  intro j hj
  have hj' : j < l.length * 3 := by simpa using hj
  refine ⟨?_, by simp [World.frozen?, hb]⟩
  have h1 : (cur.toList.take (l.length * 3))[j]? = (flatK encSug 3 l.toArray).toList[j]? := by rw [ht, flatMap_flatK encSug 3 encSug_len]; rfl
  rw [List.getElem?_take_of_lt hj'] at h1
  simp only [World.cell?, hb, Nat.zero_add]
  simp only [Option.isSome_none, Bool.false_eq_true, if_false]
  rw [← Array.getElem?_toList, h1, Array.getElem?_toList, getElem?_pos (flatK encSug 3 l.toArray) j hj, ← getElem!_pos (flatK encSug 3 l.toArray) j hj]
  rfl
theorem heap_sortedK {w : World} {g n : Nat} {os : Array Obj} {cur : Array Value} {e : TypeId} {fr : Nat × Nat} (d : Array Value) (hb : w.heap[g]? = some (.cells cur e fr)) :
    (grow (putRow id (Sort.ahead w n) g 0 d) os).heap[g]? = some (.cells (putCells id 0 d cur) e fr) := by
  have hg : g < w.heap.size := (Array.getElem?_eq_some_iff.1 hb).1
  rw [heap_grow_old _ _ (by simpa using hg)]
  simp [putRow, mapBlock, Sort.ahead, Array.getElem?_modify, hb, onCells]
theorem grownBy_sortedK {w : World} {g n : Nat} {os : Array Obj} (d : Array Value) : w.grownBy (grow (putRow id (Sort.ahead w n) g 0 d) os) (some g) := by
  refine ⟨rfl, rfl, rfl, by simp, fun k hk hne => ?_⟩
  rw [heap_grow_old _ _ (by simpa using hk)]
  have : g ≠ k := fun e => hne (by rw [e])
  simp [putRow, mapBlock, Sort.ahead, Array.getElem?_modify, this]
theorem take_putCellsK (cur : Array Value) (F : Array Value) (h : F.size ≤ cur.size) : (putCells id 0 F cur).toList.take F.size = F.toList := by
  apply List.ext_getElem?
  intro j
  by_cases hj : j < F.size
  · rw [List.getElem?_take_of_lt hj, Array.getElem?_toList]
    simp [putCells, hj, show j < cur.size by omega]
  · rw [List.getElem?_take_eq_none (by omega), List.getElem?_eq_none (by simp; omega)]
theorem ownsRow_sortedK {w w' : World} {g cap : Nat} {e : TypeId} {cur : Array Value} {l z : List Sug} (hl : z.length = l.length) (hb : w.heap[g]? = some (.cells cur e (0, 0)))
    (h1 : l.length ≤ cap) (h2 : cap ≤ maxLen) (h3 : cur.size = cap * 3) (hS : SWK encSug 3 w g 0 z.toArray w') :
    w'.ownsRow 0 e 3 (.slice (some ⟨g, 0, none⟩) l.length cap) l.length (sugCells z) ∧ w.grownBy w' (some g) := by
  obtain ⟨n, os, rfl⟩ := hS
  refine ⟨⟨by rw [sugCells_len, hl], .inr ⟨g, cap, _, rfl, Nat.zero_le _, heap_sortedK _ hb, h1, h2, by simp [putCells, h3], ?_⟩⟩, grownBy_sortedK _⟩
  have hsz : (flatK encSug 3 z.toArray).size = l.length * 3 := by simp [hl]
  have := take_putCellsK cur (flatK encSug 3 z.toArray) (by rw [hsz, h3]; exact Nat.mul_le_mul_right 3 h1)
  rw [hsz] at this
  rw [this, flatMap_flatK encSug 3 encSug_len]
  rfl

theorem sug_lays (blk off N : Nat) (w : World) : CmpLays Tryz.prog 59 #[] encSug 3 sugCmp blk off N w := fun m os dk _ x y => by
  have := sugCmp_any x y (sortWorldK encSug 3 w blk off m dk os)
  exact this

theorem grownBy_same {w w' : World} (h : Same w w') (r : Option Nat) : w.grownBy w' r := by
  obtain ⟨n, rfl⟩ := h
  exact ⟨rfl, rfl, rfl, Nat.le_refl _, fun _ _ _ => rfl⟩

set_option maxRecDepth 100000 in
set_option maxHeartbeats 1000000 in
theorem insertion_nil (fv : Value) (w : World) : Calls Tryz.prog 132 #[.slice none 0 0, .int .i64 0, .int .i64 0, fv] w fun e w' => e = .returned (.tuple #[]) ∧ Same w w' := by
  go_enter Tryz.func132, Tryz.ntmps132
  go_wp2
  go_loopg [8] 0 (fun kx s8 wr => s8 = .int .i64 1 ∧ Same w wr)
  case atStart => exact ⟨by go_num, Same.refl _⟩
  case round =>
    obtain ⟨rfl, hs⟩ := hrel
    go_wp2_with fail
    go_end0
    exact ⟨rfl, hs⟩

set_option maxRecDepth 100000 in
set_option maxHeartbeats 1000000 in
theorem stable_nil (fv : Value) (w : World) : Calls Tryz.prog 95 #[.slice none 0 0, .int .i64 0, fv] w fun e w' => e = .returned (.tuple #[]) ∧ Same w w' := by
  go_enter Tryz.func95, Tryz.ntmps95
  go_wp2
  go_loopg [7, 8] 0 (fun kx s7 s8 wr => s7 = .int .i64 0 ∧ s8 = .int .i64 20 ∧ Same w wr)
  case atStart => exact ⟨rfl, rfl, Same.refl _⟩
  case round =>
    obtain ⟨rfl, rfl, hs⟩ := hrel
    go_wp2_with fail
    refine (insertion_nil fv wr).mono ?_
    rintro e w1 ⟨rfl, hs1⟩
    have hs2 := hs.trans hs1
    clear hs hs1
    go_wp2
    go_loopg [6, 7, 8, 9] 0 (fun kx s6 s7 s8 s9 wr => s6 = .int .i64 20 ∧ Same w wr)
    case atStart => exact ⟨rfl, hs2⟩
    case round =>
      obtain ⟨rfl, hs⟩ := hrel
      go_wp2_with fail
      go_end0
      exact ⟨rfl, hs⟩

/-- The suggestions of a row, sorted. -/
theorem sortStable_any (v : Value) (l : List Sug) (w : World) (hrow : w.ownsRow 0 59 3 v l.length (sugCells l)) (hsz : l.length ≤ 1000000) :
    Calls Tryz.prog 58 #[v, .func (.func 59) #[] #[]] w fun e w' => e = .returned (.tuple #[]) ∧
      ∃ z, w'.ownsRow 0 59 3 v l.length (sugCells z) ∧ Srt sugCmp z ∧ z.Perm l ∧ w.grownBy w' v.ownBlock := by
  rcases hrow.2 with ⟨rfl, hnil⟩ | ⟨g, cap, cur, rfl, hbase, hb, h1, h2, h3, h4⟩
  · have := List.eq_nil_of_length_eq_zero hnil
    subst this
    go_enter Tryz.func58, Tryz.ntmps58
    go_wp2_with (go_at_call 95; refine (stable_nil _ _).mono ?_; rintro e w1 ⟨rfl, hw1⟩)
    go_end0
    exact ⟨rfl, [], World.ownsRow_nil _ _ _ _, List.Pairwise.nil, List.Perm.refl _, grownBy_same hw1 _⟩
  · have hrowK : RowK encSug 3 w g 0 l.toArray := ⟨encSug_len, fun x v hv => by
      unfold encSug at hv
      simp at hv
      rcases hv with rfl | rfl | rfl <;> rfl, holdsK_of_row hb h4, (Array.getElem?_eq_some_iff.1 hb).1⟩
    have HB := Lib.hid (show _ ∧ _ ∧ _ ∧ _ from ⟨hb, h1, h2, h3⟩)
    have HC : Hid (∀ W, W = w → Calls Tryz.prog 95 #[.slice (some ⟨g, 0, none⟩) l.length cap, .int .i64 l.length, .func (.func 59) #[] #[]] W fun e w' => e = .returned (.tuple #[]) ∧
      ∃ z : List Sug, SWK encSug 3 w g 0 z.toArray w' ∧ Srt sugCmp z ∧ z.Perm l) := Lib.hid (fun W hW => by
        subst hW
        exact stable_any encSug sugCmp sug_swo 59 #[] (enters_of Tryz.func59 (by kernel_rfl) rfl) g 0 cap l.length l.toArray W W (sug_lays _ _ _ _) 3 rfl hrowK l (by simp) rfl (SWK.start hrowK.hH) hsz)
    clear hrow hb h1 h2 h3 h4 hrowK
    go_enter Tryz.func58, Tryz.ntmps58
    go_wp2_with (go_at_call 95; refine (HC.out _ rfl).mono ?_; rintro e w1 ⟨rfl, z, hS, hz, hp⟩)
    go_end0
    obtain ⟨hb, h1, h2, h3⟩ := HB.out
    obtain ⟨hr, hg⟩ := ownsRow_sortedK hp.length_eq hb h1 h2 h3 hS
    exact ⟨rfl, z, hr, hz, hp, hg⟩
end Go.Proofs.Ts
/- What Suggest hands the automaton's walk: the suggestions so far and the numbers that it has met. Conditions: those that each theorem names. -/
set_option linter.unusedVariables false
set_option linter.unusedSimpArgs false
namespace Go.Proofs.Ts
open Go Go.RowKit

theorem int_law : KeyLaw Tryz.prog 3 intV (fun _ _ => True) where
  now := fun d hd a b => by
    right
    rw [Tryz.underlying3] at hd
    cases hd
    unfold intV
    show some (_ == _) = _
    congr 1
    rw [Bool.eq_iff_iff]
    simp
    try omega
  und := ⟨_, Tryz.underlying3⟩
  eq := fun w a b _ _ => by
    unfold intV
    simp [go_sem, Op.equal, Op.maxDepth]
    try (rw [Bool.eq_iff_iff]; simp)
    try omega
  chk := fun w e a _ => checkKey_zero _ e 9999 _ _ w Tryz.underlying3 rfl
  same := fun a => by
    unfold intV
    simp [Instr.sameBits]

/-- Terms met, with their numbers and how far they lie. -/
abbrev Seen := List (List UInt8 × Nat × Nat)
def seenM (L : Seen) : List (Nat × Nat) := L.map fun x => (x.2.1, x.2.2)
def sugOf (D : List (List (List UInt8))) (x : List UInt8 × Nat × Nat) : Sug := ⟨x.1, x.2.2, (postsOf D x.1).length⟩
def addS (far : Nat) (L : Seen) (q : List UInt8 × Nat) : Seen := if (get (seenM L) q.2).isSome then L else L ++ [(q.1, q.2, far)]

theorem SegAt.postB {w : World} {sb : Nat} {D : List (List (List UInt8))} {kn : Value} {db : Nat} {R : Nat → Prop} {Λ : Nat → List Word} {ρ : Nat → Nat} {Dd : List DS} {pv : Value} {ps : List Value} (h : SegAt w sb D kn db R Λ ρ Dd pv ps) {i : Nat} {t : List UInt8} (ht : (Λ 0)[i]? = some t) :
    ∃ g n cap a cap2 cs, pv = .slice (some ⟨g, 0, none⟩) n cap ∧ i < n ∧ n ≤ 10000 ∧ w.heap[g]? = some (.cells cs 27 (0, 0)) ∧ cs[i]? = some (.slice a (postsOf D t).length cap2) := by
  obtain ⟨h1, h2, h3, h4, h5, h6, h7, h8⟩ := h
  have hi := (List.getElem?_eq_some_iff.1 ht).1
  have hps : ps.length = (Λ 0).length := by have := h7.1; omega
  obtain ⟨v, hv⟩ : ∃ v, ps[i]? = some v := ⟨_, List.getElem?_eq_getElem (by omega)⟩
  obtain ⟨a, cap2, rfl⟩ := ownsRow_form (h8 i v t hv ht)
  rcases h7.2 with ⟨rfl, hn⟩ | ⟨g, cap, cur, rfl, _, hg, hc1, hc2, hc3, hc4⟩
  · omega
  refine ⟨g, _, cap, a, cap2, cur, rfl, hi, h5, hg, ?_⟩
  rw [← hc4, List.getElem?_take_of_lt (by omega), Array.getElem?_toList] at hv
  exact hv

/-- The memory while suggestions are collected. -/
structure SJ (w0 : World) (D : List (List (List UInt8))) (bm bf lb bs mb sb far : Nat) (L : Seen) (W : World) : Prop where
  box : ∃ v, W.heap[lb]? = some (.cells #[v] 55 (0, 0)) ∧ W.ownsRow 0 59 3 v L.length (sugCells (L.map (sugOf D))) ∧ Past w0.heap.size v ∧ v.ownBlock ≠ some lb
  bxm : W.heap[bm]? = some (.cells #[.map (some mb)] 129 (0, 0))
  mp : MapIs intV W mb (vals intV (seenM L))
  bxf : W.heap[bf]? = some (.cells #[.int .i64 far] 3 (0, 0))
  bxs : W.heap[bs]? = some (.cells #[ptrV sb] 23 (0, 0))
  below : Below w0.heap.size w0 W
  ge : w0.heap.size ≤ lb ∧ w0.heap.size ≤ mb

theorem SJ.steps {w0 : World} {D : List (List (List UInt8))} {bm bf lb bs mb sb far B : Nat} {L : Seen} {W W' : World} (h : SJ w0 D bm bf lb bs mb sb far L W) (hB : w0.heap.size ≤ B) (hs : StepsB B W W') : SJ w0 D bm bf lb bs mb sb far L W' := by
  obtain ⟨v, h1, h2, h3, h4⟩ := h.box
  have go : ∀ (k : Nat) cs t r, W.heap[k]? = some (.cells cs t r) → t ≠ 5 → W'.heap[k]? = some (.cells cs t r) := fun k cs t r hk ht => hs.2.2.2.2 k _ hk (.inr fun cs' r' e => by cases e; exact ht rfl)
  obtain ⟨es, c, hes, _⟩ := h.mp
  refine ⟨⟨v, go _ _ _ _ h1 (by decide), ownsRow_typed h2 fun k cs r hk => (go _ _ _ _ hk (by decide)).trans hk.symm, h3, h4⟩, go _ _ _ _ h.bxm (by decide),
    h.mp.of_block ((hs.2.2.2.2 _ _ hes (.inr fun cs' r' e => by cases e)).trans hes.symm), go _ _ _ _ h.bxf (by decide), go _ _ _ _ h.bxs (by decide), ⟨hs.1.trans h.below.os, hs.2.1.trans h.below.tape, hs.2.2.1.trans h.below.output, Nat.le_trans h.below.size hs.2.2.2.1, fun k hk => ?_⟩, h.ge⟩
  have hl : k < W.heap.size := Nat.lt_of_lt_of_le hk h.below.size
  rw [hs.2.2.2.2 k W.heap[k] (Array.getElem?_eq_getElem hl) (.inl (by omega)), ← Array.getElem?_eq_getElem hl]
  exact h.below.block k hk

theorem Tryz.info59 : (Tryz.prog.info? 59).map (fun i => (i.zero, i.size, i.bytes)) = some (some (.agg #[.string ⟨#[]⟩, .int .i64 0, .int .i64 0]), 3, 32) := by kernel_rfl

set_option maxRecDepth 100000 in
set_option maxHeartbeats 2000000 in
theorem sugYield_any (w0 : World) (D : List (List (List UInt8))) (bm bf lb bs mb sb far : Nat) (kn : Value) (db : Nat) (R : Nat → Prop) (Λ : Nat → List Word) (ρ : Nat → Nat) (Dd : List DS) (pv : Value) (ps : List Value) (hseg : SegAt w0 sb D kn db R Λ ρ Dd pv ps)
    (L : Seen) (t : List UInt8) (i : Nat) (w : World) (hj : SJ w0 D bm bf lb bs mb sb far L w) (ht : (Λ 0)[i]? = some t) (hlen : L.length ≤ 1000000) :
    Calls Tryz.prog 57 #[strV t, intV i, ptrV bm, ptrV bf, ptrV lb, ptrV bs] w fun e w' => KeepT w w' ∧ SJ w0 D bm bf lb bs mb sb far (addS far L (t, i)) w' ∧ e = .returned (.bool true) := by
  have hlk := MapIs.lookup int_law hj.mp i trivial (fun _ _ => trivial) Tryz.underlying129 (z := .int .i64 0) (by kernel_rfl) true
  rw [get_vals] at hlk
  have m0 : w.cell? ⟨bm, 0, none⟩ = some (.map (some mb)) := cell_block hj.bxm
  cases hget : get (seenM L) i with
  | some k =>
    rw [hget] at hlk
    have hlk' : (Instr.lookup 129 (.map (some mb)) (.int .i64 i) true).run Tryz.prog w = .ok (.tuple #[.int .i64 k, .bool true]) w := hlk
    have hadd : addS far L (t, i) = L := by unfold addS; rw [hget]; rfl
    rw [hadd]
    have HJ := Lib.hid hj
    clear hlk hj hget hadd hseg ht
    unfold strV intV ptrV
    go_enter Tryz.func57, Tryz.ntmps57
    go_wp2_with fail
    go_ret
    exact ⟨KeepT.refl _, HJ.out, rfl⟩
  | none =>
    rw [hget] at hlk
    have hlk' : (Instr.lookup 129 (.map (some mb)) (.int .i64 i) true).run Tryz.prog w = .ok (.tuple #[.int .i64 0, .bool false]) w := hlk
    have hadd : addS far L (t, i) = L ++ [(t, i, far)] := by unfold addS; rw [hget]; rfl
    rw [hadd]
    obtain ⟨v, h1, h2, h3, h4⟩ := hj.box
    obtain ⟨W1, hrun1, hmap1, hg1, hz1⟩ := MapIs.update int_law hj.mp i trivial (fun _ _ => trivial) Tryz.underlying129 (intV far)
    have hmap2 : MapIs intV W1 mb (vals intV (seenM (L ++ [(t, i, far)]))) := by
      rw [length_put_none _ (by rw [get_vals, hget]; rfl)] at hmap1
      have : vals intV (seenM (L ++ [(t, i, far)])) = vals intV (seenM L) ++ [(i, intV far)] := by simp [vals, seenM]
      rw [this]
      exact hmap1
    have hrun1' : (Instr.mapUpdate 129 (.map (some mb)) (.int .i64 i) (.int .i64 far)).run Tryz.prog w = .ok () W1 := hrun1
    obtain ⟨es, cc, hes, _⟩ := hj.mp
    -- blocks of cells stay through the update
    have up : ∀ (k : Nat) cs T r, w.heap[k]? = some (.cells cs T r) → W1.heap[k]? = some (.cells cs T r) := fun k cs T r hk => by
      refine (hg1.block k (lt_of_heap hk) fun e => ?_).trans hk
      cases e
      rw [hes] at hk
      cases hk
    have b1 := up _ _ _ _ h1
    have b2 := up _ _ _ _ hj.bxf
    have b3 := up _ _ _ _ hj.bxs
    have hsegw := hseg.below hj.below
    have b4 := up _ _ _ _ hsegw.1
    obtain ⟨gp, np, capp, ax, cx, cp, rfl, hip, hnp, b5, hpa⟩ := hsegw.postB ht
    have b5 := up _ _ _ _ b5
    have b6 := up _ _ _ _ hj.bxm
    have c9 : w.cell? ⟨bf, 0, none⟩ = some (.int .i64 far) := cell_block hj.bxf
    have c1 : W1.cell? ⟨lb, 0, none⟩ = some v := cell_block b1
    have c2 : W1.cell? ⟨bf, 0, none⟩ = some (.int .i64 far) := cell_block b2
    have c3 : W1.cell? ⟨bs, 0, none⟩ = some (.pointer (some ⟨sb, 0, none⟩)) := cell_block b3
    have c4 : W1.cell? ⟨sb, 2, none⟩ = some (.slice (some ⟨gp, 0, none⟩) np capp) := cell_block b4
    have c5 : W1.cell? ⟨gp, i, none⟩ = some (.slice ax (postsOf D t).length cx) := (cell_block b5).trans hpa
    have hrow1 : W1.ownsRow 0 59 3 v L.length (sugCells (L.map (sugOf D))) := ownsRow_typed h2 fun k cs r hk => (up _ _ _ _ hk).trans hk.symm
    have HRW := Lib.hid hrow1
    have hpar : ∀ (k : Nat) cs T r, W1.heap[k]? = some (.cells cs T r) → T ≠ 59 → v.ownBlock ≠ some k := fun k cs T r hk hT e => by
      obtain ⟨cur, hcur⟩ := ownsRow_cells4 hrow1 e
      rw [hk] at hcur
      cases hcur
      exact hT rfl
    have HB := Lib.hid (show _ ∧ _ ∧ _ ∧ _ ∧ _ ∧ _ from ⟨b1, b2, b3, b4, b5, b6⟩)
    have HPAR := Lib.hid hpar
    have l1 := lt_of_heap b1
    have l2 := lt_of_heap b2
    have l3 := lt_of_heap b3
    have l4 := lt_of_heap b4
    have l5 := lt_of_heap b5
    have H1 := Lib.hid h1
    have H2 := Lib.hid h2
    have H3 := Lib.hid h3
    have H4 := Lib.hid h4
    have HJ := Lib.hid hj
    have HMP := Lib.hid hmap2
    have HUP := Lib.hid up
    have HG1 := Lib.hid hg1
    have HES := Lib.hid hes
    obtain ⟨dn, hdn⟩ : ∃ dn, dn = (postsOf D t).length := ⟨_, rfl⟩
    rw [← hdn] at c5 hpa
    have HDN := Lib.hid hdn
    have HPA := Lib.hid hpa
    clear hlk hj hget hadd hseg ht h1 h2 h3 h4 hmap1 hmap2 up hg1 hes hsegw hpa hrun1 hdn hrow1 hz1 b1 b2 b3 b4 b5 b6 hpar
    unfold strV intV ptrV
    go_enter Tryz.func57, Tryz.ntmps57
    go_wp2_with fail
    refine wp_region_ordX [(0, false), (1, false), (2, false), (3, false), (4, false), (5, false), (6, false), (7, false), (8, false), (9, false), (10, false), (11, false), (12, true), (13, true), (14, true)] 14
      (fun w' => w'.cell? ⟨lb, 0, none⟩ = some v ∧ w'.cell? ⟨bf, 0, none⟩ = some (.int .i64 far) ∧ w'.cell? ⟨bs, 0, none⟩ = some (.pointer (some ⟨sb, 0, none⟩)) ∧ w'.cell? ⟨sb, 2, none⟩ = some (.slice (some ⟨gp, 0, none⟩) np capp) ∧ w'.cell? ⟨gp, i, none⟩ = some (.slice ax dn cx)) (by kernel_rfl) (by kernel_rfl) ⟨c1, c2, c3, c4, c5⟩ ?_
    iterate 12 (
      refine wpOrd_quiet ?_ rfl rfl (fun w' hS => ?_) ?_
      rotate_left
      · obtain ⟨e0, e1, e2, e3, e4⟩ := hS
        go_simp
        first | rfl | done
      simp only [put_lit, List.set_cons_succ, List.set_cons_zero])
    refine wpOrd_loud rfl rfl (by decide) (fun K hK => ?_)
    go_simp
    have hmv3 : Moves W1 v (W1.alloc (.cells #[.string ⟨t.toArray⟩, .int .i64 far, .int .i64 dn] 59)).drew v := (Moves.alloc W1 _ _).trans (Moves.same _ (Same.drew _))
    have hrow3 : (W1.alloc (.cells #[.string ⟨t.toArray⟩, .int .i64 far, .int .i64 dn] 59)).drew.ownsRow 0 59 3 v L.length (sugCells (L.map (sugOf D))) := (HRW.out.alloc _).drew
    have hc3 : ∀ j u, [Value.string ⟨t.toArray⟩, .int .i64 far, .int .i64 dn][j]? = some u → (W1.alloc (.cells #[.string ⟨t.toArray⟩, .int .i64 far, .int .i64 dn] 59)).drew.cell? ((⟨W1.heap.size, 0, none⟩ : Addr).add j) = some u := by
      have := cell_three_new W1 (.string ⟨t.toArray⟩) (.int .i64 far) (.int .i64 dn) 59
      simpa using this
    have oth : ∀ (b j : Nat) u, b < W1.heap.size → W1.cell? ⟨b, j, none⟩ = some u → (W1.alloc (.cells #[.string ⟨t.toArray⟩, .int .i64 far, .int .i64 dn] 59)).drew.cell? ⟨b, j, none⟩ = some u := fun b j u hb hu => (World.cell?_alloc_lt _ _ _ (by show b < _; omega)).trans hu
    have d1 := oth _ _ _ l1 c1
    have d2 := oth _ _ _ l2 c2
    have d3 := oth _ _ _ l3 c3
    have d4 := oth _ _ _ l4 c4
    have d5 := oth _ _ _ l5 c5
    clear oth c1 c2 c3 c4 c5
    generalize (W1.alloc (.cells #[.string ⟨t.toArray⟩, .int .i64 far, .int .i64 dn] 59)).drew = W3 at *
    refine hK _ _ ⟨d1, d2, d3, d4, d5⟩ ?_
    clear hK K
    refine wpOrd_loud rfl rfl (by decide) (fun K hK => ?_)
    obtain ⟨i0, hi, hz0, hz1, hz2⟩ := info_parts Tryz.info59
    refine wp_append_lies _ _ 55 rfl 59 i0 (.agg #[.string ⟨#[]⟩, .int .i64 0, .int .i64 0]) 3 32 Tryz.underlying55 hi hz0 hz1 hz2 rfl (by decide) v L.length (sugCells (L.map (sugOf D))) rfl hrow3 ⟨W1.heap.size, 0, none⟩ 1 1 [.string ⟨t.toArray⟩, .int .i64 far, .int .i64 dn] rfl rfl hc3
      (by simp [Value.oneCell']) (by decide) (by unfold maxLen; omega) (by omega) ?_
    intro v4 W4 hrow4 hgrow4 hlies4
    obtain ⟨g4, cap4, rfl⟩ := ownsRow_head hrow4
    have hmv4 := hmv3.trans (Moves.append hgrow4 hlies4)
    have st : ∀ (k : Nat) cs T r, W1.heap[k]? = some (.cells cs T r) → T ≠ 59 → W4.heap[k]? = some (.cells cs T r) := fun k cs T r hk hT => (hmv4.block (lt_of_heap hk) (HPAR.out k cs T r hk hT)).trans hk
    have e1 : W4.cell? ⟨lb, 0, none⟩ = some v := cell_block (st _ _ _ _ HB.out.1 (by decide))
    have e2 : W4.cell? ⟨bf, 0, none⟩ = some (.int .i64 far) := cell_block (st _ _ _ _ HB.out.2.1 (by decide))
    have e3 : W4.cell? ⟨bs, 0, none⟩ = some (.pointer (some ⟨sb, 0, none⟩)) := cell_block (st _ _ _ _ HB.out.2.2.1 (by decide))
    have e4 : W4.cell? ⟨sb, 2, none⟩ = some (.slice (some ⟨gp, 0, none⟩) np capp) := cell_block (st _ _ _ _ HB.out.2.2.2.1 (by decide))
    have e5 : W4.cell? ⟨gp, i, none⟩ = some (.slice ax dn cx) := (cell_block (st _ _ _ _ HB.out.2.2.2.2.1 (by decide))).trans HPA.out
    have f4 : W4.frozen? ⟨lb, 0, none⟩ = false := free_block (st _ _ _ _ HB.out.1 (by decide))
    have HMV4 := Lib.hid hmv4
    have HROW4 := Lib.hid hrow4
    have HST := Lib.hid st
    clear hmv3 hrow3 hc3 hrow4 hgrow4 hlies4 hmv4 st d1 d2 d3 d4 d5
    refine hK _ _ ⟨e1, e2, e3, e4, e5⟩ ?_
    clear hK K
    simp only [put_lit, List.set_cons_succ, List.set_cons_zero]
    refine wpOrd_last rfl rfl (fun K hK => ?_)
    go_simp
    refine hK _ _ ?_
    clear hK K e2 e3 e4 e5
    have hb4 := HST.out _ _ _ _ HB.out.1 (by decide)
    have hw5 : ∀ (k : Nat), k ≠ lb → (W4.setCell ⟨lb, 0, none⟩ (.slice (some ⟨g4, 0, none⟩) (L.length + 1) cap4)).heap[k]? = W4.heap[k]? := fun k hk => Below.heap_setCell W4 _ _ k fun e => hk e
    have hl5 := heap_setCell_same W4 lb 0 _ _ (.slice (some ⟨g4, 0, none⟩) (L.length + 1) cap4) hb4
    have hs5 : (W4.setCell ⟨lb, 0, none⟩ (.slice (some ⟨g4, 0, none⟩) (L.length + 1) cap4)).heap.size = W4.heap.size := by simp
    have HW5 := Lib.hid (show _ ∧ _ ∧ _ from ⟨hw5, hl5, hs5⟩)
    have hB5 : Below w0.heap.size w0 (W4.setCell ⟨lb, 0, none⟩ (.slice (some ⟨g4, 0, none⟩) (L.length + 1) cap4)) := by
      have hb1 : Below w0.heap.size w0 W1 := HJ.out.below.grown HG1.out HJ.out.below.size (fun k e => by cases e; exact HJ.out.ge.2)
      exact (HMV4.out.below H3.out hb1 (by have := hb1.size; omega)).setCell (p := ⟨lb, 0, none⟩) HJ.out.ge.1 _
    have HB5 := Lib.hid hB5
    clear hw5 hl5 hs5 hB5 f4 e1 hb4
    generalize W4.setCell ⟨lb, 0, none⟩ (.slice (some ⟨g4, 0, none⟩) (L.length + 1) cap4) = W5 at *
    go_wp2_with fail
    go_ret
    obtain ⟨hw5, hl5, hs5⟩ := HW5.out
    have hmv := HMV4.out
    have hn4 : g4 ≠ lb := fun e => by
      rcases hmv.lies with h | ⟨g', h, hg'⟩
      · exact H4.out (by rw [← h, ← e]; rfl)
      · have : g4 = g' := Option.some.inj h
        omega
    have hkeep5 : ∀ (k : Nat) cs T r, W1.heap[k]? = some (.cells cs T r) → T ≠ 59 → k ≠ lb → W5.heap[k]? = some (.cells cs T r) := fun k cs T r hk hT hkl => (hw5 k hkl).trans (HST.out k cs T r hk hT)
    have nelb : ∀ (k : Nat) cs T r, W1.heap[k]? = some (.cells cs T r) → T ≠ 55 → k ≠ lb := fun k cs T r hk hT e => by
      rw [e, HB.out.1] at hk
      cases hk
      exact hT rfl
    have hsz1 : w.heap.size ≤ W1.heap.size := HG1.out.size
    refine ⟨⟨by have := hmv.size; omega, fun k cs t' r hk ht' => ?_⟩, ⟨⟨_, hl5, ?_, ?_, ?_⟩, ?_, ?_, ?_, ?_, HB5.out, HJ.out.ge⟩, rfl⟩
    · have hk1 := HUP.out k cs t' r hk
      have hts : t' ≠ 59 := fun e => by subst e; exact absurd ht' (by decide)
      have htl : t' ≠ 55 := fun e => by subst e; exact absurd ht' (by decide)
      exact (hkeep5 k cs t' r hk1 hts (nelb k cs t' r hk1 htl)).trans hk.symm
    · have hcells : sugCells ((L ++ [(t, i, far)]).map (sugOf D)) = sugCells (L.map (sugOf D)) ++ [.string ⟨t.toArray⟩, .int .i64 far, .int .i64 dn] := by
        unfold sugCells
        rw [List.map_append, List.flatMap_append, HDN.out]
        rfl
      rw [hcells, List.length_append, List.length_singleton]
      exact ownsRow_block HROW4.out fun k e => hw5 k fun e' => hn4 (by cases e; exact e')
    · exact hmv.past H3.out (by have := HJ.out.below.size; omega)
    · exact fun e => hn4 (Option.some.inj e)
    · exact hkeep5 _ _ _ _ HB.out.2.2.2.2.2 (by decide) (nelb _ _ _ _ HB.out.2.2.2.2.2 (by decide))
    · refine HMP.out.of_block ?_
      obtain ⟨es1, cc1, hes1, _⟩ := HMP.out
      have hml : mb ≠ lb := fun e => by rw [e, HB.out.1] at hes1; cases hes1
      refine (hw5 mb hml).trans (hmv.block (lt_of_heap hes1) fun e => ?_)
      obtain ⟨cur, hcur⟩ := ownsRow_cells4 HRW.out e
      rw [hes1] at hcur
      cases hcur
    · exact hkeep5 _ _ _ _ HB.out.2.1 (by decide) (nelb _ _ _ _ HB.out.2.1 (by decide))
    · exact hkeep5 _ _ _ _ HB.out.2.2.1 (by decide) (nelb _ _ _ _ HB.out.2.2.1 (by decide))
end Go.Proofs.Ts
