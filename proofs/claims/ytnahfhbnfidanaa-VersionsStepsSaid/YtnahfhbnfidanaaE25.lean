import Derived.Test.YtnahfhbnfidanaaE24
namespace Go.Proofs.Ytnahfhbnfidanaa.Q
open Go.RowKit Go.Proofs.YtnahfhbnfidanaaW.PrintWords
set_option linter.unusedVariables false
set_option linter.unusedSimpArgs false
/-- The index of the greatest so far says what the greatest is. -/
def accOf (l : List S24) (b : Int) : Option S24 := if b < 0 then none else some (rd_T24 l b)
theorem great_snoc' (at_ : Int) (l : List S24) (y : S24) : great at_ (l ++ [y]) = gre at_ (great at_ l) y := by unfold great; rw [List.foldl_append]; rfl
theorem pick_snoc' (key time : Int) (xs : List S24) (x : S24) : pick key time (xs ++ [x]) = pick key time xs ++ (if isKnown key time x = true then [x] else []) := by
  unfold pick
  rw [List.filter_append]
  by_cases h : isKnown key time x = true
  · rw [if_pos h, List.filter_cons_of_pos h, List.filter_nil]
  · rw [if_neg h, List.filter_cons_of_neg h, List.filter_nil]
/-- The next time. -/
def nx (t : Int) (b : Int) (y : S24) : Int := if y.f1 > t then (if b < 0 then y.f1 else if y.f1 < b then y.f1 else b) else b
def nextP (l : List S24) (t : Int) : Int := l.foldl (nx t) (-1)
theorem next_cases (t : Int) : ∀ (l : List S24) (b : Int), (∀ y ∈ l, 0 ≤ y.f1) → (b = -1 ∨ (0 ≤ b ∧ b > t)) →
    (l.foldl (nx t) b = -1 ∧ b = -1 ∧ ∀ y ∈ l, ¬ y.f1 > t) ∨
    (l.foldl (nx t) b > t ∧ 0 ≤ l.foldl (nx t) b ∧ (l.foldl (nx t) b = b ∨ ∃ y ∈ l, y.f1 = l.foldl (nx t) b) ∧ (∀ z ∈ l, z.f1 > t → l.foldl (nx t) b ≤ z.f1) ∧ (0 ≤ b → l.foldl (nx t) b ≤ b)) := by
  intro l
  induction l with
  | nil =>
    intro b _ hb
    rcases hb with rfl | hb
    · exact .inl ⟨rfl, rfl, by simp⟩
    · exact .inr ⟨hb.2, hb.1, .inl rfl, by simp, fun _ => Int.le_refl _⟩
  | cons x r ih =>
    intro b h0 hb
    rw [List.foldl_cons]
    have hx0 := h0 x (by simp)
    by_cases c1 : x.f1 > t
    · obtain ⟨b', hb', hb1, hb2⟩ : ∃ b', nx t b x = b' ∧ (0 ≤ b' ∧ b' > t) ∧ ((b' = x.f1 ∧ (0 ≤ b → x.f1 ≤ b)) ∨ (b' = b ∧ 0 ≤ b ∧ b ≤ x.f1)) := by
        refine ⟨_, rfl, ?_⟩
        unfold nx
        rw [if_pos c1]
        by_cases c2 : b < 0
        · rw [if_pos c2]; exact ⟨⟨hx0, c1⟩, .inl ⟨rfl, by omega⟩⟩
        · rw [if_neg c2]
          by_cases c3 : x.f1 < b
          · rw [if_pos c3]; exact ⟨⟨hx0, c1⟩, .inl ⟨rfl, by omega⟩⟩
          · rw [if_neg c3]; exact ⟨by omega, .inr ⟨rfl, by omega, by omega⟩⟩
      rw [hb']
      rcases ih b' (fun y hy => h0 y (by simp [hy])) (.inr hb1) with ⟨_, h, _⟩ | ⟨g1, g2, g3, g4, g5⟩
      · omega
      · have g6 := g5 hb1.1
        refine .inr ⟨g1, g2, ?_, ?_, fun hb0 => by omega⟩
        · rcases g3 with g3 | ⟨y, hy, e⟩
          · rcases hb2 with hb2 | hb2
            · exact .inr ⟨x, by simp, by omega⟩
            · exact .inl (by omega)
          · exact .inr ⟨y, by simp [hy], e⟩
        · intro z hz hzt
          rcases List.mem_cons.1 hz with rfl | hz
          · omega
          · exact g4 z hz hzt
    · have : nx t b x = b := by unfold nx; rw [if_neg c1]
      rw [this]
      rcases ih b (fun y hy => h0 y (by simp [hy])) hb with ⟨g1, g2, g3⟩ | ⟨g1, g2, g3, g4, g5⟩
      · refine .inl ⟨g1, g2, fun y hy => ?_⟩
        rcases List.mem_cons.1 hy with rfl | hy
        · exact c1
        · exact g3 y hy
      · refine .inr ⟨g1, g2, g3.imp id (fun ⟨y, hy, e⟩ => ⟨y, by simp [hy], e⟩), fun z hz hzt => ?_, g5⟩
        rcases List.mem_cons.1 hz with rfl | hz
        · exact absurd hzt c1
        · exact g4 z hz hzt
theorem next_is (l : List S24) (h0 : ∀ y ∈ l, 0 ≤ y.f1) (t : Int) : (nextP l t = -1 ∧ ∀ y ∈ l, ¬ y.f1 > t) ∨ (nextP l t > t ∧ 0 ≤ nextP l t ∧ (∃ y ∈ l, y.f1 = nextP l t) ∧ ∀ z ∈ l, z.f1 > t → nextP l t ≤ z.f1) := by
  rcases next_cases t l (-1) h0 (.inl rfl) with ⟨h1, _, h3⟩ | ⟨h1, h2, h3, h4, _⟩
  · exact .inl ⟨h1, h3⟩
  · refine .inr ⟨h1, h2, h3.resolve_left (fun h => ?_), h4⟩
    have : (0 : Int) ≤ -1 := by rw [← h]; exact h2
    omega
/-- What lies behind a time, in a sorted row. -/
theorem split_at (lo t : Int) (ht : lo < t) : ∀ (l : List S24), l.Pairwise (fun a b => a.f1 ≤ b.f1) → (∀ y ∈ l, y.f1 > lo → t ≤ y.f1) →
    l.filter (fun y => decide (y.f1 > lo)) = l.filter (fun y => decide (y.f1 = t)) ++ l.filter (fun y => decide (y.f1 > t)) := by
  intro l
  induction l with
  | nil => intros; rfl
  | cons x r ih =>
    intro hp h
    obtain ⟨h1, h2⟩ := List.pairwise_cons.1 hp
    have ih' := ih h2 (fun y hy => h y (by simp [hy]))
    by_cases c1 : x.f1 > lo
    · have hx := h x (by simp) c1
      by_cases c2 : x.f1 = t
      · rw [List.filter_cons_of_pos (by simpa using c1), List.filter_cons_of_pos (by simpa using c2), List.filter_cons_of_neg (by simp; omega), ih']
        rfl
      · have hr : r.filter (fun y => decide (y.f1 = t)) = [] := List.filter_eq_nil_iff.2 (fun y hy => by have := h1 y hy; simp; omega)
        rw [List.filter_cons_of_pos (by simpa using c1), List.filter_cons_of_neg (by simpa using c2), List.filter_cons_of_pos (by simp; omega), ih', hr]
        rfl
    · rw [List.filter_cons_of_neg (by simpa using c1), List.filter_cons_of_neg (by simp; omega), List.filter_cons_of_neg (by simp; omega), ih']
theorem hgo_skip (t : Int) (y : S24) (r : List S24) (hy : y.f1 = t) : ∀ (g : List S24) (last : Int × Bool), (∀ z ∈ g, z.f1 = t) → hgo (g ++ y :: r) last = hgo (y :: r) last
  | [], _, _ => rfl
  | x :: g, last, h => by
    have hx := h x (by simp)
    rw [List.cons_append, hgo]
    rw [if_pos (by
      cases g with
      | nil => simp [sameAt, hx, hy]
      | cons z g => simp [sameAt, hx, h z (by simp)])]
    exact hgo_skip t y r hy g last (fun z hz => h z (by simp [hz]))
theorem great_congr {a b : Int} : ∀ (l : List S24) (acc : Option S24), (∀ y ∈ l, y.f1 ≤ a ↔ y.f1 ≤ b) → l.foldl (gre a) acc = l.foldl (gre b) acc
  | [], _, _ => rfl
  | x :: t, acc, h => by
    rw [List.foldl_cons, List.foldl_cons]
    have hx := h x (by simp)
    have : gre a acc x = gre b acc x := by
      unfold gre
      by_cases c : x.f1 ≤ a
      · rw [if_pos (by simpa using c), if_pos (by simpa using hx.1 c)]
      · rw [if_neg (by simpa using c), if_neg (by simp; have := mt hx.2 c; omega)]
    rw [this]
    exact great_congr t _ (fun y hy => h y (by simp [hy]))
/-- The sorted picks behind a time. -/
def behind (l : List S24) (key time lo : Int) : List S24 := (sortP (pick key time l)).filter (fun y => decide (y.f1 > lo))
/-- One step of a history: what lies behind a time, by the next time. -/
theorem hist_step {l : List S24} (hc : chk l = 0) (key time lo : Int) (ht : nextP l lo ≠ -1) :
    hgo (behind l key time lo) (valP l key lo time) = (if valP l key (nextP l lo) time = valP l key lo time then hgo (behind l key time (nextP l lo)) (valP l key lo time) else ⟨nextP l lo, (valP l key (nextP l lo) time).1, (valP l key (nextP l lo) time).2⟩ :: hgo (behind l key time (nextP l lo)) (valP l key (nextP l lo) time)) ∧
    (valP l key (nextP l lo) time ≠ valP l key lo time → ∃ y ∈ l, y.f1 = nextP l lo ∧ y.f3 = key ∧ y.f2 ≤ time) := by
  obtain ⟨k1, k2, k3⟩ := chk_ok hc
  have h0 : ∀ y ∈ l, 0 ≤ y.f1 := fun y hy => by have := k2 y hy; unfold vR at this; simp at this; omega
  rcases next_is l h0 lo with ⟨h, _⟩ | ⟨n1, n2, n3, n4⟩
  · exact absurd h ht
  obtain ⟨t, htt⟩ : ∃ t, nextP l lo = t := ⟨_, rfl⟩
  rw [htt] at n1 n2 n3 n4 ⊢
  obtain ⟨all, hall⟩ : ∃ a, sortP (pick key time l) = a := ⟨_, rfl⟩
  have hmem : ∀ y, y ∈ all ↔ y ∈ pick key time l := fun y => by rw [← hall]; exact (sortP_perm _).mem_iff
  have hpw : all.Pairwise (fun a b => atLt b a = false) := by
    rw [← hall, List.pairwise_iff_getElem]
    intro i j hi hj hij
    exact sortP_le _ i j _ _ hij (List.getElem?_eq_getElem hi) (List.getElem?_eq_getElem hj)
  have hsp := split_at lo t n1 all (hpw.imp (fun h => by have := atLt_false h; omega)) (fun y hy hlo => n4 y (mem_pick.1 ((hmem y).1 hy)).1 hlo)
  have hb1 : behind l key time lo = all.filter (fun y => decide (y.f1 = t)) ++ behind l key time t := by unfold behind; rw [hall]; exact hsp
  obtain ⟨R, hR⟩ : ∃ R, behind l key time t = R := ⟨_, rfl⟩
  have hRt : ∀ y ∈ R, y.f1 > t := fun y hy => by rw [← hR] at hy; unfold behind at hy; simpa using (List.mem_filter.1 hy).2
  obtain ⟨G, hG⟩ : ∃ G, all.filter (fun y => decide (y.f1 = t)) = G := ⟨_, rfl⟩
  have hGt : ∀ y ∈ G, y ∈ all ∧ y.f1 = t := fun y hy => by rw [← hG] at hy; have := List.mem_filter.1 hy; exact ⟨this.1, by simpa using this.2⟩
  rw [hb1, hR, hG]
  rcases List.eq_nil_or_concat G with hGn | ⟨g, y, hGc⟩
  · -- none at this time
    have hV : valP l key t time = valP l key lo time := by
      unfold valP
      have : great t (pick key time l) = great lo (pick key time l) := great_congr _ _ (fun y hy => by
        constructor
        · intro h1
          by_cases c : y.f1 ≤ lo
          · exact c
          · have := n4 y (mem_pick.1 hy).1 (by omega)
            have hyG : y ∈ G := by rw [← hG]; exact List.mem_filter.2 ⟨(hmem y).2 hy, by simp; omega⟩
            rw [hGn] at hyG
            simp at hyG
        · intro h1; omega)
      rw [this]
    rw [hV, if_pos rfl, hGn]
    exact ⟨rfl, fun h => absurd rfl h⟩
  · rw [List.concat_eq_append] at hGc
    have hyG : y ∈ G := by rw [hGc]; simp
    obtain ⟨hya, hyt⟩ := hGt y hyG
    have hyp := (hmem y).1 hya
    have hgr : great t (pick key time l) = some y := by
      refine great_uniq hyp (by omega) (fun u hu hu1 => ?_)
      refine atLt_tot k3 (mem_pick.1 hyp).1 (mem_pick.1 hu).1 ?_
      by_cases c : u.f1 = t
      · have huG : u ∈ G := by rw [← hG]; exact List.mem_filter.2 ⟨(hmem u).2 hu, by simpa using c⟩
        have hGp : G.Pairwise (fun a b => atLt b a = false) := by rw [← hG]; exact hpw.sublist List.filter_sublist
        rw [hGc] at huG hGp
        rcases List.mem_append.1 huG with hug | hug
        · exact (List.pairwise_append.1 hGp).2.2 u hug y (by simp)
        · obtain rfl : u = y := by simpa using hug
          exact atLt_false_of (by omega)
      · exact atLt_false_of (by omega)
    have hV : valP l key t time = (y.f4, !y.f5) := by unfold valP; rw [hgr]; simp
    rw [hGc, List.append_assoc, List.singleton_append, hgo_skip t y R hyt g _ (fun z hz => (hGt z (by rw [hGc]; simp [hz])).2)]
    refine ⟨?_, fun _ => ⟨y, (mem_pick.1 hyp).1, hyt, (mem_pick.1 hyp).2⟩⟩
    rw [hgo, if_neg (by
      cases R with
      | nil => simp [sameAt]
      | cons z r => have := hRt z (by simp); simp [sameAt]; omega), hV]
    by_cases c : (y.f4, !y.f5) = valP l key lo time
    · rw [if_neg (fun h => h c), if_pos c]
    · rw [if_pos c, if_neg c, hyt]
/-- A history, by its times. -/
theorem hist_ind {l : List S24} (hc : chk l = 0) (key time : Int) (P : Int → List S42 → Prop)
    (hb : ∀ lo, nextP l lo = -1 → P lo [])
    (h1 : ∀ lo s, nextP l lo > lo → 0 ≤ nextP l lo → valP l key (nextP l lo) time = valP l key lo time → P (nextP l lo) s → P lo s)
    (h2 : ∀ lo s, nextP l lo > lo → 0 ≤ nextP l lo → valP l key (nextP l lo) time ≠ valP l key lo time → (∃ y ∈ l, y.f1 = nextP l lo ∧ y.f3 = key ∧ y.f2 ≤ time) → P (nextP l lo) s → P lo (⟨nextP l lo, (valP l key (nextP l lo) time).1, (valP l key (nextP l lo) time).2⟩ :: s)) :
    ∀ lo, P lo (hgo (behind l key time lo) (valP l key lo time)) := by
  obtain ⟨k1, k2, k3⟩ := chk_ok hc
  have h0 : ∀ y ∈ l, 0 ≤ y.f1 := fun y hy => by have := k2 y hy; unfold vR at this; simp at this; omega
  suffices h : ∀ (n : Nat) (lo : Int), (l.filter (fun y => decide (y.f1 > lo))).length ≤ n → P lo (hgo (behind l key time lo) (valP l key lo time)) from fun lo => h _ lo (Nat.le_refl _)
  intro n
  have hnone : ∀ lo, nextP l lo = -1 → P lo (hgo (behind l key time lo) (valP l key lo time)) := fun lo hn => by
    have : behind l key time lo = [] := by
      unfold behind
      refine List.filter_eq_nil_iff.2 (fun y hy => ?_)
      have hyl := (mem_pick.1 ((sortP_perm _).mem_iff.1 hy)).1
      rcases next_is l h0 lo with ⟨_, h⟩ | ⟨_, n2, _, _⟩
      · simpa using h y hyl
      · omega
    rw [this]
    exact hb lo hn
  induction n with
  | zero =>
    intro lo hn
    refine hnone lo ?_
    rcases next_is l h0 lo with ⟨h, _⟩ | ⟨n1, _, ⟨y, hy, e⟩, _⟩
    · exact h
    · have : y ∈ l.filter (fun y => decide (y.f1 > lo)) := List.mem_filter.2 ⟨hy, by simp; omega⟩
      rw [List.length_eq_zero_iff.1 (Nat.le_zero.1 hn)] at this
      simp at this
  | succ n ih =>
    intro lo hn
    by_cases hnx : nextP l lo = -1
    · exact hnone lo hnx
    · obtain ⟨hs, hy⟩ := hist_step hc key time lo hnx
      rcases next_is l h0 lo with ⟨h, _⟩ | ⟨n1, n2, ⟨y, hyl, e⟩, _⟩
      · exact absurd h hnx
      · have hlt : (l.filter (fun y => decide (y.f1 > nextP l lo))).length ≤ n := by
          have hsub : (l.filter (fun y => decide (y.f1 > nextP l lo))).length < (l.filter (fun y => decide (y.f1 > lo))).length := by
            have h3 : l.filter (fun y => decide (y.f1 > nextP l lo)) = (l.filter (fun y => decide (y.f1 > lo))).filter (fun y => decide (y.f1 > nextP l lo)) := by
              rw [List.filter_filter]
              refine List.filter_congr (fun z _ => ?_)
              by_cases c : z.f1 > nextP l lo
              · have : z.f1 > lo := by omega
                simp [c, this]
              · simp [c]
            rw [h3]
            refine List.length_filter_lt_length_iff_exists.2 ⟨y, List.mem_filter.2 ⟨hyl, by simp; omega⟩, by simp; omega⟩
          omega
        have ih' := ih (nextP l lo) hlt
        rw [hs]
        by_cases c : valP l key (nextP l lo) time = valP l key lo time
        · rw [if_pos c]
          rw [c] at ih'
          exact h1 lo _ n1 n2 c ih'
        · rw [if_neg c]
          exact h2 lo _ n1 n2 c (hy c) ih'
theorem start_eq {l : List S24} (hc : chk l = 0) (key time : Int) : histP l key time = hgo (behind l key time (-1)) (valP l key (-1) time) ∧ valP l key (-1) time = (0, false) := by
  obtain ⟨k1, k2, k3⟩ := chk_ok hc
  have h0 : ∀ y ∈ l, 0 ≤ y.f1 := fun y hy => by have := k2 y hy; unfold vR at this; simp at this; omega
  have hv : valP l key (-1) time = (0, false) := by
    unfold valP
    rw [great_none (fun y hy => by have := h0 y (mem_pick.1 hy).1; omega)]
    rfl
  refine ⟨?_, hv⟩
  rw [hv]
  unfold histP behind
  rw [List.filter_eq_self.2 (fun y hy => by have := h0 y (mem_pick.1 ((sortP_perm _).mem_iff.1 hy)).1; simp; omega)]
end Go.Proofs.Ytnahfhbnfidanaa.Q
