/- What the laws' marks and sizes come to. Conditions: none. -/
import Derived.Test.YtiimbndjggebdaaC3Copies
namespace Go.Proofs.Ytiimbndjggebdaa.Q
open Go.RowKit Go.Proofs.YtiimbndjggebdaaW.PrintWords Go.Proofs.YtiimbndjggebdaaW.PrintLast Go.Proofs.YtiimbndjggebdaaW.PrintMore
set_option linter.unusedVariables false
set_option linter.unusedSimpArgs false
def marks (a : Int) (n : Nat) : List Int := (List.range n).map (fun j : Nat => a + (j : Int))
theorem marks_len (a : Int) (n : Nat) : (marks a n).length = n := by simp [marks]
theorem marks_at (a : Int) (n i : Nat) (h : i < (marks a n).length) : (marks a n)[i] = a + (i : Int) := by simp [marks]
theorem write_step {α : Type} (xs ys : List α) (i : Nat) (h : i < xs.length) (hl : ys.length = xs.length) : (ys.take i ++ xs.drop i).set i (ys[i]'(by omega)) = ys.take (i + 1) ++ xs.drop (i + 1) := by
  rw [List.set_append_right _ _ (by simp; omega)]
  have : i - (ys.take i).length = 0 := by simp; omega
  rw [this, List.drop_eq_getElem_cons h, List.set_cons_zero, List.take_succ_eq_append_getElem (by omega), List.append_assoc]
  rfl
theorem markIntS_at (l : List Int) (a : Int) (h0 : 0 ≤ a) (ha : a + l.length ≤ 4611686018427387903) : Ev (fun k => laws_markIntS.f k l a) (a + l.length, marks a l.length) := by
  have hfin := Ev.iter l.length (fun k i => laws_markIntS.l0 k ((marks a l.length).take i ++ l.drop i) (a + (i : Int)) (i : Int)) (fun _ => (a + l.length, marks a l.length)) (by
    intro i hi h
    refine Ev.step (fun k => by rw [laws_markIntS.l0, if_pos (by simp [marks_len]; omega), if_pos (by omega), wi (by omega), wr (by omega) (by omega), Int.toNat_natCast]) ?_
    have e1 := write_step l (marks a l.length) i hi (marks_len _ _)
    rw [marks_at] at e1
    rw [e1, show a + (i : Int) + 1 = a + ((i + 1 : Nat) : Int) by omega]
    exact h) (by
    refine Ev.step (fun k => by rw [laws_markIntS.l0, if_neg (by simp [marks_len])]) ?_
    have e : (marks a l.length).take l.length ++ l.drop l.length = marks a l.length := by rw [List.take_of_length_le (by simp [marks_len]), List.drop_length, List.append_nil]
    rw [e]
    exact Ev.now _) 0 (by omega)
  simpa [laws_markIntS.f] using hfin
theorem heldIntS_at (n : Nat) (a : Int) (h0 : 0 ≤ a) (ha : a + n ≤ 4611686018427387903) : Ev (fun k => laws_heldIntS.f k (marks a n) a) (a + n) := by
  have hfin := Ev.iter n (fun k i => laws_heldIntS.l0 k (marks a n) (a + (i : Int)) (i : Int)) (fun _ => a + n) (by
    intro i hi h
    refine Ev.step (fun k => by rw [laws_heldIntS.l0, if_pos (by simp [marks_len]; omega), if_pos (by omega), if_pos (by rw [rd_at (by simp [marks_len]; omega), marks_at]), wi (by omega), wr (by omega) (by omega)]) ?_
    rw [show a + (i : Int) + 1 = a + ((i + 1 : Nat) : Int) by omega]
    exact h) (by
    refine Ev.step (fun k => by rw [laws_heldIntS.l0, if_neg (by simp [marks_len])]) ?_
    exact Ev.now _) 0 (by omega)
  rw [show a + ((0 : Nat) : Int) = a by omega] at hfin
  exact hfin
def total (l : List (List Int)) : Nat := (l.map List.length).sum
theorem total_take (l : List (List Int)) (i : Nat) (h : i < l.length) : total (l.take (i + 1)) = total (l.take i) + l[i].length := by
  unfold total
  rw [List.take_succ_eq_append_getElem h, List.map_append, List.sum_append]
  simp
theorem total_le (l : List (List Int)) (i : Nat) : total (l.take i) ≤ total l := by
  have := List.take_append_drop i l
  unfold total
  calc ((l.take i).map List.length).sum ≤ ((l.take i).map List.length).sum + ((l.drop i).map List.length).sum := by omega
    _ = (l.map List.length).sum := by rw [← List.sum_append, ← List.map_append, this]
theorem total_mem (l : List (List Int)) : ∀ x ∈ l, x.length ≤ total l := by
  induction l with
  | nil => intro x hx; cases hx
  | cons y ys ih =>
    intro x hx
    simp only [total, List.map_cons, List.sum_cons] at ih ⊢
    rcases List.mem_cons.1 hx with rfl | h
    · omega
    · have := ih x h; omega
theorem markIntSSk_at (l : List (List Int)) (a : Int) (h0 : 0 ≤ a) (ha : a + total l ≤ 4611686018427387903) (hl : l.length ≤ 4611686018427387903) : ∃ l', Ev (fun k => laws_markIntSSk.f k l a) (a + total l, l') := by
  have hfin : ∀ d i (s : List (List Int)), l.length - i = d → i ≤ l.length → s.length = l.length → (∀ j, i ≤ j → s[j]? = l[j]?) → ∃ l', Ev (fun k => laws_markIntSSk.l0 k s (a + total (l.take i)) (i : Int)) (a + total l, l') := by
    intro d
    induction d with
    | zero =>
      intro i s hd hi hs hj
      obtain rfl : i = l.length := by omega
      refine ⟨s, Ev.step (fun k => by rw [laws_markIntSSk.l0, if_neg (by omega)]) ?_⟩
      rw [List.take_length]
      exact Ev.now _
    | succ d ih =>
      intro i s hd hi hs hj
      have hlt : i < l.length := by omega
      have hsi : s[i]'(by omega) = l[i] := by
        have := hj i (Nat.le_refl _)
        rw [List.getElem?_eq_getElem (by omega), List.getElem?_eq_getElem hlt] at this
        exact Option.some.inj this
      obtain ⟨l', h⟩ := ih (i + 1) (s.set i (marks (a + total (l.take i)) (l[i].length))) (by omega) (by omega) (by simp [hs]) (by
        intro j hij
        rw [List.getElem?_set_ne (by omega)]
        exact hj j (by omega))
      have ht := total_take l i hlt
      have hle := total_le l (i + 1)
      refine ⟨l', Ev.step (fun k => by rw [laws_markIntSSk.l0, if_pos (by omega), if_pos (by omega), rd_L1_at (by omega : i < s.length), hsi]) ?_⟩
      refine Ev.bind (markIntS_at _ _ (by omega) (by omega)) ?_
      refine Ev.congr (fun k => by rw [Int.toNat_natCast, wi (by omega)]) ?_
      rw [show a + (total (l.take i) : Int) + (l[i].length : Int) = a + (total (l.take (i + 1)) : Int) by omega]
      exact h
  obtain ⟨l', h⟩ := hfin l.length 0 l (by omega) (by omega) rfl (fun _ _ => rfl)
  exact ⟨l', by simpa [laws_markIntSSk.f, total] using h⟩
theorem markIntA2S_at (l : List S52) (a : Int) (h0 : 0 ≤ a) (ha : a + 2 * l.length ≤ 4611686018427387903) : ∃ l', Ev (fun k => laws_markIntA2S.f k l a) (a + 2 * l.length, l') := by
  have hfin : ∀ d i (s : List S52), l.length - i = d → i ≤ l.length → s.length = l.length → ∃ l', Ev (fun k => laws_markIntA2S.l0 k s (a + 2 * i) (i : Int)) (a + 2 * l.length, l') := by
    intro d
    induction d with
    | zero =>
      intro i s hd hi hs
      obtain rfl : i = l.length := by omega
      refine ⟨s, Ev.step (fun k => by rw [laws_markIntA2S.l0, if_neg (by omega)]) ?_⟩
      exact Ev.now _
    | succ d ih =>
      intro i s hd hi hs
      have hlt : i < l.length := by omega
      obtain ⟨l', h⟩ := ih (i + 1) ((s.set i ⟨a + 2 * i, (rd_T52 s i).f1⟩).set i ⟨(rd_T52 (s.set i ⟨a + 2 * i, (rd_T52 s i).f1⟩) i).f0, a + 2 * i + 1⟩) (by omega) (by omega) (by simp [hs])
      refine ⟨l', Ev.step (fun k => by rw [laws_markIntA2S.l0, if_pos (by omega)]) ?_⟩
      refine Ev.step (fun k => by rw [laws_markIntA2S.l1, if_pos (by omega), if_pos (by omega), if_pos (by omega), if_pos rfl, w64_1, wr (by omega) (by omega), Int.toNat_natCast]) ?_
      refine Ev.step (fun k => by rw [laws_markIntA2S.l1, if_pos (by omega), if_pos (by omega), if_pos (by simp [hs]; omega), if_neg (by omega), if_pos rfl, w64_2, wr (by omega) (by omega), Int.toNat_natCast]) ?_
      refine Ev.step (fun k => by rw [laws_markIntA2S.l1, if_neg (by omega), wi (by omega)]) ?_
      rw [show a + 2 * (i : Int) + 1 + 1 = a + 2 * ((i + 1 : Nat) : Int) by omega]
      exact h
  obtain ⟨l', h⟩ := hfin l.length 0 l (by omega) (by omega) rfl
  exact ⟨l', by simpa [laws_markIntA2S.f] using h⟩
theorem markSpace_at (l0 : List (List Int)) (l1 : List S52) (a : Int) (h0 : 0 ≤ a) (ha : a + total l0 + 2 * l1.length ≤ 4611686018427387903) (hl : l0.length ≤ 4611686018427387903) : Ev (fun k => laws_markSpace.f k l0 l1 a) (a + total l0 + 2 * l1.length) := by
  obtain ⟨x, hx⟩ := markIntSSk_at l0 a h0 (by omega) hl
  obtain ⟨y, hy⟩ := markIntA2S_at l1 (a + total l0) (by omega) (by omega)
  refine Ev.bind hx ?_
  refine Ev.bind hy ?_
  exact Ev.now _
theorem szIntSS_at (l : List (List Int)) (a : Int) (h0 : 0 ≤ a) (ha : a ≤ 4611686018427387903) (hl : l.length ≤ 9223372036854775807) (hr : ∀ x ∈ l, x.length ≤ 9223372036854775807) : Ev (fun k => laws_szIntSS.f k l a) (if 0 ≤ a - l.length - total l then a - l.length - total l else -1) := by
  by_cases hc : a - (l.length : Int) < 0
  · refine Ev.congr (fun k => by rw [laws_szIntSS.f, wr (by omega) (by omega), if_pos hc]) ?_
    rw [if_neg (by omega)]
    exact Ev.now _
  · refine Ev.congr (fun k => by rw [laws_szIntSS.f, wr (by omega) (by omega), if_neg hc]) ?_
    have hfin : ∀ d i, l.length - i = d → i ≤ l.length → 0 ≤ a - l.length - total (l.take i) → Ev (fun k => laws_szIntSS.l0 k l (a - l.length - total (l.take i)) (i : Int)) (if 0 ≤ a - l.length - total l then a - l.length - total l else -1) := by
      intro d
      induction d with
      | zero =>
        intro i hd hi hp
        obtain rfl : i = l.length := by omega
        rw [List.take_length] at hp ⊢
        refine Ev.step (fun k => by rw [laws_szIntSS.l0, if_neg (by omega)]) ?_
        rw [if_pos hp]
        exact Ev.now _
      | succ d ih =>
        intro i hd hi hp
        have hlt : i < l.length := by omega
        have ht' := total_take l i hlt
        have hle := total_le l (i + 1)
        have hri := hr _ (List.getElem_mem hlt)
        refine Ev.step (fun k => by rw [laws_szIntSS.l0, if_pos (by omega), if_pos (by omega), rd_L1_at hlt, laws_szIntS.f, wr (by omega) (by omega)]) ?_
        by_cases h2 : a - (l.length : Int) - (total (l.take i) : Int) - (l[i].length : Int) < 0
        · refine Ev.congr (fun k => by rw [if_pos h2, Option.bind_some, if_pos (by omega)]) ?_
          rw [if_neg (by omega)]
          exact Ev.now _
        · refine Ev.congr (fun k => by rw [if_neg h2, Option.bind_some, if_neg h2, wi (by omega)]) ?_
          rw [show a - (l.length : Int) - (total (l.take i) : Int) - (l[i].length : Int) = a - (l.length : Int) - (total (l.take (i + 1)) : Int) by omega]
          exact ih (i + 1) (by omega) (by omega) (by omega)
    have := hfin l.length 0 (by omega) (by omega) (by simp [total]; omega)
    simpa [total] using this
theorem szSpace_at (l0 : List (List Int)) (l1 : List S52) (hl : l0.length ≤ 9223372036854775807) (hr : ∀ x ∈ l0, x.length ≤ 9223372036854775807) (h1 : l1.length ≤ 9223372036854775807) : Ev (fun k => laws_szSpace.f k l0 l1 1048576) (if (l0.length : Int) + total l0 + l1.length ≤ 1048576 then 1048576 - (l0.length : Int) - total l0 - l1.length else -1) := by
  refine Ev.bind (szIntSS_at l0 1048576 (by omega) (by omega) hl hr) ?_
  by_cases hc : (0 : Int) ≤ 1048576 - l0.length - total l0
  · rw [if_pos hc]
    refine Ev.congr (fun k => by rw [if_neg (by omega), laws_szIntA2S.f, wr (by omega) (by omega)]) ?_
    by_cases h2 : 1048576 - (l0.length : Int) - total l0 - l1.length < 0
    · refine Ev.congr (fun k => by rw [if_pos h2, Option.bind_some, if_pos (by omega)]) ?_
      rw [if_neg (by omega)]
      exact Ev.now _
    · refine Ev.congr (fun k => by rw [if_neg h2, Option.bind_some, if_neg h2]) ?_
      rw [if_pos (by omega)]
      exact Ev.now _
  · rw [if_neg hc]
    refine Ev.congr (fun k => by rw [if_pos (by omega)]) ?_
    rw [if_neg (by omega)]
    exact Ev.now _
end Go.Proofs.Ytiimbndjggebdaa.Q
