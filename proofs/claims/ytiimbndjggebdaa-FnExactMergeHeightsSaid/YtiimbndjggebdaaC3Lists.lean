/- A space's lists of neighbors: the program's and the reference's are one. Conditions: none. -/
import Derived.Test.YtiimbndjggebdaaC3Spaces
import Derived.Test.YtiimbndjggebdaaC3Q8
import Derived.Test.YtiimbndjggebdaaC3Q18
namespace Go.Proofs.Ytiimbndjggebdaa.Q
open Go.RowKit Go.Proofs.YtiimbndjggebdaaW.PrintWords Go.Proofs.YtiimbndjggebdaaW.PrintLast Go.Proofs.YtiimbndjggebdaaW.PrintMore
set_option linter.unusedVariables false
set_option linter.unusedSimpArgs false
structure StepsOK (n : Nat) (sp : List S52) : Prop where
  rng : ∀ s ∈ sp, 0 ≤ s.f0 ∧ s.f0 < s.f1 ∧ s.f1 < (n : Int)
  srt : sp.Pairwise (fun x y => lex52 x y = true)
theorem lex52_iff (x y : S52) : lex52 x y = true ↔ x.f0 < y.f0 ∨ (x.f0 = y.f0 ∧ x.f1 < y.f1) := by simp [lex52]
theorem lex52_trans {x y z : S52} (h : lex52 x y = true) (h2 : lex52 y z = true) : lex52 x z = true := by
  rw [lex52_iff] at *
  omega
theorem pairwise_of_next {α : Type} (R : α → α → Prop) (tr : ∀ x y z, R x y → R y z → R x z) (l : List α) (h : ∀ i (h1 : i + 1 < l.length), R (l[i]'(by omega)) l[i + 1]) : l.Pairwise R := by
  rw [List.pairwise_iff_getElem]
  intro i j hi hj hij
  obtain ⟨d, rfl⟩ : ∃ d, j = i + 1 + d := ⟨j - i - 1, by omega⟩
  clear hij
  induction d with
  | zero => exact h i hj
  | succ d ih => exact tr _ _ _ (ih (by omega)) (h (i + 1 + d) hj)
theorem okSpace_steps {st : List (List Int)} {sp : List S52} (h : okSpace st sp = true) : st.length ≤ 300 ∧ sp.length ≤ 6000 ∧ StepsOK st.length sp := by
  simp only [okSpace, Bool.and_eq_true, decide_eq_true_eq] at h
  obtain ⟨⟨h1, h2⟩, _, h3⟩ := h
  rw [List.all_eq_true] at h3
  have hs : ∀ i (hi : i < sp.length), (0 ≤ sp[i].f0 ∧ sp[i].f0 < sp[i].f1 ∧ sp[i].f1 < (st.length : Int)) ∧ ∀ (h0 : 0 < i), lex52 (sp[i - 1]'(by omega)) sp[i] = true := by
    intro i hi
    have := h3 i (List.mem_range.2 hi)
    simp only [stepOK, Bool.and_eq_true, Bool.or_eq_true, decide_eq_true_eq, rd_T52_at hi] at this
    refine ⟨⟨this.1.1.1, this.1.1.2, this.1.2⟩, fun h0 => ?_⟩
    rcases this.2 with h | h
    · omega
    · rw [show (i : Int) - 1 = ((i - 1 : Nat) : Int) by omega, rd_T52_at (by omega)] at h
      exact h
  refine ⟨h1, h2, ⟨fun s hs' => ?_, ?_⟩⟩
  · obtain ⟨i, hi, rfl⟩ := List.getElem_of_mem hs'
    exact (hs i hi).1
  · refine pairwise_of_next (fun x y => lex52 x y = true) (fun x y z => lex52_trans) _ (fun i hi => ?_)
    have := (hs (i + 1) hi).2 (by omega)
    simpa using this
def befores (sp : List S52) (v : Int) : List Int := (sp.filter (fun s => decide (s.f1 = v))).map S52.f0
def behinds (sp : List S52) (v : Int) : List Int := (sp.filter (fun s => decide (s.f0 = v))).map S52.f1
def adj (sp : List S52) (v : Int) : List Int := befores sp v ++ behinds sp v
def lists (n : Nat) (sp : List S52) : List (List Int) := (List.range n).map (fun v : Nat => adj sp v)
theorem set_tab {α : Type} (n u : Nat) (g : Nat → α) (y : α) : ((List.range n).map g).set u y = (List.range n).map (fun v => if v = u then y else g v) := by
  apply List.ext_getElem (by simp)
  intro i h1 h2
  simp only [List.length_map, List.length_range] at h2
  rw [List.getElem_set]
  by_cases h : u = i
  · subst h; simp
  · rw [if_neg h]; simp [show ¬ (i = u) from fun e => h e.symm]
theorem rd_L1_tab {n : Nat} (g : Nat → List Int) {u : Int} (h0 : 0 ≤ u) (h1 : u < (n : Int)) : rd_L1 ((List.range n).map g) u = g u.toNat := by
  have : u.toNat < n := by omega
  simp [rd_L1, List.getD, this]
theorem take_succ_filter (p : S52 → Bool) (sp : List S52) (i : Nat) (h : i < sp.length) : (sp.take (i + 1)).filter p = (sp.take i).filter p ++ (if p sp[i] then [sp[i]] else []) := by
  rw [List.take_succ_eq_append_getElem h, List.filter_append]
  congr 1
  simp [List.filter_cons]
theorem befores_take (sp : List S52) (i : Nat) (h : i < sp.length) (v : Int) : befores (sp.take (i + 1)) v = befores (sp.take i) v ++ (if sp[i].f1 = v then [sp[i].f0] else []) := by
  unfold befores
  rw [take_succ_filter _ _ _ h, List.map_append]
  congr 1
  by_cases e : sp[i].f1 = v <;> simp [e]
theorem behinds_take (sp : List S52) (i : Nat) (h : i < sp.length) (v : Int) : behinds (sp.take (i + 1)) v = behinds (sp.take i) v ++ (if sp[i].f0 = v then [sp[i].f1] else []) := by
  unfold behinds
  rw [take_succ_filter _ _ _ h, List.map_append]
  congr 1
  by_cases e : sp[i].f0 = v <;> simp [e]
theorem befores_len (sp : List S52) (v : Int) : (befores sp v).length ≤ sp.length := by
  unfold befores; rw [List.length_map]; exact List.length_filter_le _ _
theorem behinds_len (sp : List S52) (v : Int) : (behinds sp v).length ≤ sp.length := by
  unfold behinds; rw [List.length_map]; exact List.length_filter_le _ _
theorem l2Lists_at (st : List (List Int)) (sp : List S52) (hn : st.length ≤ 1048576) (hm : sp.length ≤ 1048576) (ok : ∀ s ∈ sp, 0 ≤ s.f0 ∧ s.f0 < s.f1 ∧ s.f1 < (st.length : Int)) : Ev (fun k => spec_l2Lists.f k st sp) (lists st.length sp) := by
  refine Ev.congr (fun k => by rw [spec_l2Lists.f, if_pos (by omega), if_pos (by omega), Int.toNat_natCast]) ?_
  have second := Ev.iter sp.length (fun k i => spec_l2Lists.l1 k (i : Int) ((List.range st.length).map (fun v : Nat => befores sp v ++ behinds (sp.take i) v)) st sp) (fun _ => lists st.length sp) (by
    intro i hi h
    obtain ⟨a, b, c⟩ := ok _ (List.getElem_mem hi)
    refine Ev.step (fun k => by rw [spec_l2Lists.l1, if_pos (by omega), if_pos (by omega), rd_T52_at hi, if_pos (by omega), if_pos (by simp; omega), rd_L1_tab _ (by omega) (by omega), if_pos (by
      have := befores_len sp ((sp[i].f0.toNat : Nat) : Int)
      have := behinds_len (sp.take i) ((sp[i].f0.toNat : Nat) : Int)
      simp only [List.length_append, List.length_take] at *
      omega), wi (by omega), set_tab]) ?_
    have e : (fun v : Nat => if v = sp[i].f0.toNat then befores sp ((sp[i].f0.toNat : Nat) : Int) ++ behinds (sp.take i) ((sp[i].f0.toNat : Nat) : Int) ++ [sp[i].f1] else befores sp v ++ behinds (sp.take i) v) = fun v : Nat => befores sp v ++ behinds (sp.take (i + 1)) v := by
      funext v
      rw [behinds_take _ _ hi]
      by_cases e : v = sp[i].f0.toNat
      · rw [if_pos e, if_pos (by omega), e, List.append_assoc]
      · rw [if_neg e, if_neg (by omega), List.append_nil]
    rw [e]
    exact h) (by
    refine Ev.step (fun k => by rw [spec_l2Lists.l1, if_neg (by omega)]) ?_
    rw [List.take_length]
    exact Ev.now _) 0 (by omega)
  have first := Ev.iter sp.length (fun k i => spec_l2Lists.l0 k (i : Int) ((List.range st.length).map (fun v : Nat => befores (sp.take i) v)) st sp) (fun _ => lists st.length sp) (by
    intro i hi h
    obtain ⟨a, b, c⟩ := ok _ (List.getElem_mem hi)
    refine Ev.step (fun k => by rw [spec_l2Lists.l0, if_pos (by omega), if_pos (by omega), rd_T52_at hi, if_pos (by omega), if_pos (by simp; omega), rd_L1_tab _ (by omega) (by omega), if_pos (by
      have := befores_len (sp.take i) ((sp[i].f1.toNat : Nat) : Int)
      simp only [List.length_take] at *
      omega), wi (by omega), set_tab]) ?_
    have e : (fun v : Nat => if v = sp[i].f1.toNat then befores (sp.take i) ((sp[i].f1.toNat : Nat) : Int) ++ [sp[i].f0] else befores (sp.take i) v) = fun v : Nat => befores (sp.take (i + 1)) v := by
      funext v
      rw [befores_take _ _ hi]
      by_cases e : v = sp[i].f1.toNat
      · rw [if_pos e, if_pos (by omega), e]
      · rw [if_neg e, if_neg (by omega), List.append_nil]
    rw [e]
    exact h) (by
    refine Ev.step (fun k => by rw [spec_l2Lists.l0, if_neg (by omega)]) ?_
    rw [List.take_length]
    simpa [behinds] using second) 0 (by omega)
  have e : List.replicate st.length ([] : List Int) = (List.range st.length).map (fun v : Nat => befores (sp.take 0) v) := by
    apply List.ext_getElem (by simp)
    intro i h1 h2
    simp [befores]
  rw [e]
  exact first
def mix (sp : List S52) (v : Int) : List Int := sp.flatMap (fun s => if s.f0 = v then [s.f1] else if s.f1 = v then [s.f0] else [])
theorem mix_take (sp : List S52) (i : Nat) (h : i < sp.length) (v : Int) : mix (sp.take (i + 1)) v = mix (sp.take i) v ++ (if sp[i].f0 = v then [sp[i].f1] else if sp[i].f1 = v then [sp[i].f0] else []) := by
  unfold mix
  rw [List.take_succ_eq_append_getElem h, List.flatMap_append]
  simp
theorem mix_len (sp : List S52) (v : Int) : (mix sp v).length ≤ sp.length := by
  induction sp with
  | nil => simp [mix]
  | cons s sp ih =>
    unfold mix at *
    rw [List.flatMap_cons, List.length_append, List.length_cons]
    have : (if s.f0 = v then [s.f1] else if s.f1 = v then [s.f0] else []).length ≤ 1 := by
      by_cases h : s.f0 = v
      · simp [h]
      · by_cases h2 : s.f1 = v <;> simp [h, h2]
    omega
theorem mix_perm (sp : List S52) (ok : ∀ s ∈ sp, s.f0 < s.f1) (v : Int) : (mix sp v).Perm (adj sp v) := by
  induction sp with
  | nil => exact List.Perm.refl _
  | cons s sp ih =>
    have ih := ih (fun x hx => ok x (List.mem_cons_of_mem _ hx))
    have hlt := ok s List.mem_cons_self
    unfold mix adj befores behinds at *
    rw [List.flatMap_cons]
    by_cases h0 : s.f0 = v
    · have h1 : ¬ (s.f1 = v) := by omega
      rw [if_pos h0, List.filter_cons_of_neg (by simpa using h1), List.filter_cons_of_pos (by simpa using h0), List.map_cons]
      exact (List.Perm.cons _ ih).trans List.perm_middle.symm
    · by_cases h1 : s.f1 = v
      · rw [if_neg h0, if_pos h1, List.filter_cons_of_pos (by simpa using h1), List.filter_cons_of_neg (by simpa using h0), List.map_cons]
        exact List.Perm.cons _ ih
      · rw [if_neg h0, if_neg h1, List.filter_cons_of_neg (by simpa using h1), List.filter_cons_of_neg (by simpa using h0)]
        exact ih
theorem adj_sorted {n : Nat} {sp : List S52} (h : StepsOK n sp) (v : Int) : (adj sp v).Pairwise (fun a b => a < b) := by
  unfold adj
  rw [List.pairwise_append]
  refine ⟨?_, ?_, ?_⟩
  · unfold befores
    rw [List.pairwise_map]
    refine (List.Pairwise.filter _ h.srt).imp_of_mem ?_
    intro a b ha hb hl
    have e1 := of_decide_eq_true (List.mem_filter.1 ha).2
    have e2 := of_decide_eq_true (List.mem_filter.1 hb).2
    rw [lex52_iff] at hl
    omega
  · unfold behinds
    rw [List.pairwise_map]
    refine (List.Pairwise.filter _ h.srt).imp_of_mem ?_
    intro a b ha hb hl
    have e1 := of_decide_eq_true (List.mem_filter.1 ha).2
    have e2 := of_decide_eq_true (List.mem_filter.1 hb).2
    rw [lex52_iff] at hl
    omega
  · intro a ha b hb
    obtain ⟨s, hs, rfl⟩ := List.mem_map.1 ha
    obtain ⟨t, ht, rfl⟩ := List.mem_map.1 hb
    have e1 := of_decide_eq_true (List.mem_filter.1 hs).2
    have e2 := of_decide_eq_true (List.mem_filter.1 ht).2
    have := (h.rng s (List.mem_filter.1 hs).1).2.1
    have := (h.rng t (List.mem_filter.1 ht).1).2.1
    omega
theorem sort_of_perm {l l2 : List Int} (hp : l.Perm l2) (hs : l2.Pairwise (fun a b => a ≤ b)) : l.mergeSort (fun x y => decide (x ≤ y)) = l2 := by
  refine List.Perm.eq_of_pairwise (le := fun a b => a ≤ b) (fun a b _ _ h1 h2 => by omega) ?_ hs ((List.mergeSort_perm _ _).trans hp)
  have := List.pairwise_mergeSort (le := fun x y : Int => decide (x ≤ y)) (fun a b c h1 h2 => by simp at *; omega) (fun a b => by simp; omega) l
  exact this.imp (fun h => by simpa using h)
theorem roads_at (st : List (List Int)) (sp : List S52) (hn : st.length ≤ 1048576) (hm : sp.length ≤ 1048576) (ok : StepsOK st.length sp) : Ev (fun k => impl_Space_roads.f k st sp) (lists st.length sp) := by
  refine Ev.congr (fun k => by rw [impl_Space_roads.f, if_pos (by omega), if_pos (by omega), Int.toNat_natCast]) ?_
  have hsort : ∀ v : Int, (mix sp v).mergeSort (fun x y => decide (x ≤ y)) = adj sp v := fun v => sort_of_perm (mix_perm sp (fun s hs => (ok.rng s hs).2.1) v) ((adj_sorted ok v).imp (fun h => by omega))
  have second := Ev.iter st.length (fun k i => impl_Space_roads.l1 k ((List.range st.length).map (fun v : Nat => if v < i then adj sp v else mix sp v)) (st.length : Int) (i : Int)) (fun _ => lists st.length sp) (by
    intro i hi h
    refine Ev.step (fun k => by rw [impl_Space_roads.l1, if_pos (by omega), if_pos (by omega), if_pos (by simp; omega), rd_L1_tab _ (by omega) (by omega), Int.toNat_natCast, if_neg (by omega), slices_Sort_int_int.f, if_pos (by have := mix_len sp (i : Int); omega), Option.bind_some, hsort, set_tab, wi (by omega)]) ?_
    have e : (fun v : Nat => if v = i then adj sp i else if v < i then adj sp v else mix sp v) = fun v : Nat => if v < i + 1 then adj sp v else mix sp v := by
      funext v
      by_cases e : v = i
      · rw [if_pos e, if_pos (by omega), e]
      · rw [if_neg e]
        by_cases e2 : v < i
        · rw [if_pos e2, if_pos (by omega)]
        · rw [if_neg e2, if_neg (by omega)]
    rw [e]
    exact h) (by
    refine Ev.step (fun k => by rw [impl_Space_roads.l1, if_neg (by omega)]) ?_
    have e : (List.range st.length).map (fun v : Nat => if v < st.length then adj sp v else mix sp v) = lists st.length sp := List.map_congr_left (fun v hv => by rw [if_pos (List.mem_range.1 hv)])
    rw [e]
    exact Ev.now _) 0 (by omega)
  have first := Ev.iter sp.length (fun k i => impl_Space_roads.l0 k ((List.range st.length).map (fun v : Nat => mix (sp.take i) v)) sp (sp.length : Int) (i : Int)) (fun _ => lists st.length sp) (by
    intro i hi h
    obtain ⟨a, b, c⟩ := ok.rng _ (List.getElem_mem hi)
    refine Ev.step (fun k => by rw [impl_Space_roads.l0, if_pos (by omega), if_pos (by omega), if_pos (by omega), rd_T52_at hi, if_pos (by omega), if_pos (by simp; omega), rd_L1_tab _ (by omega) (by omega), if_pos (by
      have := mix_len (sp.take i) ((sp[i].f0.toNat : Nat) : Int)
      simp only [List.length_take] at *
      omega), Option.bind_some, set_tab, if_pos (by omega), if_pos (by simp; omega), rd_L1_tab _ (by omega) (by omega), if_neg (show ¬ (sp[i].f1.toNat = sp[i].f0.toNat) by omega), if_pos (by
      have := mix_len (sp.take i) ((sp[i].f1.toNat : Nat) : Int)
      simp only [List.length_take] at *
      omega), wi (by omega), set_tab]) ?_
    have e : (fun v : Nat => if v = sp[i].f1.toNat then mix (sp.take i) ((sp[i].f1.toNat : Nat) : Int) ++ [sp[i].f0] else if v = sp[i].f0.toNat then mix (sp.take i) ((sp[i].f0.toNat : Nat) : Int) ++ [sp[i].f1] else mix (sp.take i) v) = fun v : Nat => mix (sp.take (i + 1)) v := by
      funext v
      rw [mix_take _ _ hi]
      by_cases e : v = sp[i].f1.toNat
      · rw [if_pos e, if_neg (by omega), if_pos (by omega), e]
      · rw [if_neg e]
        by_cases e2 : v = sp[i].f0.toNat
        · rw [if_pos e2, if_pos (by omega), e2]
        · rw [if_neg e2, if_neg (by omega), if_neg (by omega), List.append_nil]
    rw [e]
    exact h) (by
    refine Ev.step (fun k => by rw [impl_Space_roads.l0, if_neg (by omega)]) ?_
    rw [List.take_length]
    simpa using second) 0 (by omega)
  have e : List.replicate st.length ([] : List Int) = (List.range st.length).map (fun v : Nat => mix (sp.take 0) v) := by
    apply List.ext_getElem (by simp)
    intro i h1 h2
    simp [mix]
  rw [e]
  exact first
end Go.Proofs.Ytiimbndjggebdaa.Q
