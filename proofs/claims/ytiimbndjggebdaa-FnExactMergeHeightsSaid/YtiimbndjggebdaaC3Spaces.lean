/- The program's test of a space and the reference's are one test, in plain words. Conditions: none. -/
import Derived.Test.YtiimbndjggebdaaC3Marks
import Derived.Test.YtiimbndjggebdaaC3Q4
import Derived.Test.YtiimbndjggebdaaC3Q16
namespace Go.Proofs.Ytiimbndjggebdaa.Q
open Go.RowKit Go.Proofs.YtiimbndjggebdaaW.PrintWords Go.Proofs.YtiimbndjggebdaaW.PrintLast Go.Proofs.YtiimbndjggebdaaW.PrintMore
set_option linter.unusedVariables false
set_option linter.unusedSimpArgs false
def stateOK (x : List Int) : Bool := x.all (fun v => decide (-99 ≤ v) && decide (v ≤ 99)) && decide (x.length ≤ 24)
theorem all_drop {α : Type} (p : α → Bool) (l : List α) (i : Nat) (h : i < l.length) : (l.drop i).all p = (p l[i] && (l.drop (i + 1)).all p) := by
  rw [List.drop_eq_getElem_cons h, List.all_cons]
theorem all_range_end (p : Nat → Bool) (n : Nat) : ((List.range n).drop n).all p = true := by
  rw [List.drop_of_length_le (by simp)]
  rfl
theorem all_range_drop (p : Nat → Bool) (n i : Nat) (h : i < n) : ((List.range n).drop i).all p = (p i && ((List.range n).drop (i + 1)).all p) := by
  rw [all_drop p _ i (by simpa using h)]
  simp
theorem l2State_at (l : List Int) (hl : l.length ≤ 4611686018427387903) : Ev (fun k => spec_l2State.f k l) (stateOK l) := by
  have hfin := Ev.iter l.length (fun k i => spec_l2State.l0 k l (i : Int)) (fun i => (l.drop i).all (fun v => decide (-99 ≤ v) && decide (v ≤ 99)) && decide (l.length ≤ 24)) (by
    intro i hi h
    refine Ev.step (fun k => by rw [spec_l2State.l0, if_pos (by omega), if_pos (by omega), rd_at hi, spec_l1In.f]) ?_
    rw [all_drop _ _ _ hi]
    by_cases h1 : l[i] ≥ -99
    · refine Ev.congr (fun k => by rw [if_pos h1, Option.bind_some]) ?_
      by_cases h2 : l[i] ≤ 99
      · refine Ev.congr (fun k => by rw [if_pos (decide_eq_true h2), wi (by omega)]) ?_
        simpa [h1, h2] using h
      · refine Ev.congr (fun k => by rw [if_neg (by simpa using h2)]) ?_
        simpa [h2] using Ev.now false
    · refine Ev.congr (fun k => by rw [if_neg h1, Option.bind_some, if_neg (by simp)]) ?_
      simpa [h1] using Ev.now false) (by
    refine Ev.step (fun k => by rw [spec_l2State.l0, if_neg (by omega)]) ?_
    rw [List.drop_length, show decide ((l.length : Int) ≤ 24) = decide (l.length ≤ 24) from decide_eq_decide.2 (by omega)]
    exact Ev.now _) 0 (by omega)
  simpa [spec_l2State.f, stateOK] using hfin
theorem isState_at (l : List Int) : impl_isState.f l = some (stateOK l) := by
  unfold impl_isState.f stateOK
  rw [Bool.and_comm, List.not_any_eq_all_not]
  simp
def cmpl : List Int → List Int → Int
  | [], [] => 0
  | [], _ :: _ => -1
  | _ :: _, [] => 1
  | a :: xs, b :: ys => if a < b then -1 else if a > b then 1 else cmpl xs ys
theorem cmpl_drop (a b : List Int) (i : Nat) (h : i < a.length) (h2 : i < b.length) : cmpl (a.drop i) (b.drop i) = if a[i] < b[i] then -1 else if a[i] > b[i] then 1 else cmpl (a.drop (i + 1)) (b.drop (i + 1)) := by
  rw [List.drop_eq_getElem_cons h, List.drop_eq_getElem_cons h2, cmpl]
theorem cmpl_endA (a b : List Int) (i : Nat) (h : a.length ≤ i) (h2 : i < b.length) : cmpl (a.drop i) (b.drop i) = -1 := by
  rw [List.drop_of_length_le h, List.drop_eq_getElem_cons h2, cmpl]
theorem cmpl_endB (a b : List Int) (i : Nat) (h : i < a.length) (h2 : b.length ≤ i) : cmpl (a.drop i) (b.drop i) = 1 := by
  rw [List.drop_of_length_le h2, List.drop_eq_getElem_cons h, cmpl]
theorem cmpl_end (a b : List Int) (i : Nat) (h : a.length ≤ i) (h2 : b.length ≤ i) : cmpl (a.drop i) (b.drop i) = 0 := by
  rw [List.drop_of_length_le h2, List.drop_of_length_le h, cmpl]
theorem cmpInt_at (a b : Int) : cmp_Compare_int.f a b = some (if a < b then -1 else if a > b then 1 else 0) := by
  simp only [cmp_Compare_int.f, cmp_isNaN_int.f, bne_self_eq_false, Option.bind_some]
  rw [if_neg (by simp), if_neg (by simp)]
  by_cases h : a < b
  · rw [if_pos h, if_pos h]
  · rw [if_neg h, if_neg h]
    by_cases h2 : a > b
    · rw [if_pos h2, if_pos h2]
    · rw [if_neg h2, if_neg h2]
theorem l2Before_at (a b : List Int) (ha : a.length ≤ 4611686018427387903) (hb : b.length ≤ 4611686018427387903) : Ev (fun k => spec_l2Before.f k a b) (decide (cmpl a b < 0)) := by
  have hfin : ∀ d i, a.length - i = d → i ≤ a.length → i ≤ b.length → Ev (fun k => spec_l2Before.l0 k a b (i : Int)) (decide (cmpl (a.drop i) (b.drop i) < 0)) := by
    intro d
    induction d with
    | zero =>
      intro i hd hi hj
      obtain rfl : i = a.length := by omega
      refine Ev.step (fun k => by rw [spec_l2Before.l0, if_neg (by omega)]) ?_
      refine Ev.step (fun k => by rw [spec_l2Before.j1, if_neg (by simp)]) ?_
      by_cases h : a.length < b.length
      · rw [cmpl_endA _ _ _ (Nat.le_refl _) h]
        simpa [h] using Ev.now true
      · rw [cmpl_end _ _ _ (Nat.le_refl _) (by omega)]
        simpa [h] using Ev.now false
    | succ d ih =>
      intro i hd hi hj
      refine Ev.step (fun k => by rw [spec_l2Before.l0, if_pos (by omega)]) ?_
      by_cases h : i < b.length
      · refine Ev.step (fun k => by rw [spec_l2Before.j1, if_pos (decide_eq_true (by omega)), if_pos (by omega), if_pos (by omega), if_pos (by omega), rd_at (by omega : i < a.length), rd_at h]) ?_
        rw [cmpl_drop _ _ _ (by omega) h]
        by_cases e : a[i] = b[i]
        · refine Ev.congr (fun k => by rw [if_pos e, wi (by omega)]) ?_
          rw [if_neg (by omega), if_neg (by omega)]
          exact ih (i + 1) (by omega) (by omega) (by omega)
        · refine Ev.congr (fun k => by rw [if_neg e]) ?_
          by_cases e2 : a[i] < b[i]
          · simpa [e2] using Ev.now true
          · rw [if_neg e2, if_pos (by omega)]
            simpa [e2] using Ev.now false
      · refine Ev.step (fun k => by rw [spec_l2Before.j1, if_neg (by simp; omega)]) ?_
        rw [cmpl_endB _ _ _ (by omega) (by omega)]
        have : ¬ (a.length < b.length) := by omega
        simpa [this] using Ev.now false
  simpa [spec_l2Before.f] using hfin a.length 0 (by omega) (by omega) (by omega)
theorem compare_at (a b : List Int) (ha : a.length ≤ 4611686018427387903) (hb : b.length ≤ 4611686018427387903) : Ev (fun k => slices_Compare_int_int.f k a b) (cmpl a b) := by
  have hfin : ∀ d i, a.length - i = d → i ≤ a.length → i ≤ b.length → Ev (fun k => slices_Compare_int_int.l0 k a b a (a.length : Int) (i : Int)) (cmpl (a.drop i) (b.drop i)) := by
    intro d
    induction d with
    | zero =>
      intro i hd hi hj
      obtain rfl : i = a.length := by omega
      refine Ev.step (fun k => by rw [slices_Compare_int_int.l0, if_neg (by omega)]) ?_
      by_cases h : a.length < b.length
      · rw [cmpl_endA _ _ _ (Nat.le_refl _) h]
        refine Ev.congr (fun k => by rw [if_pos (by omega)]) (Ev.now _)
      · rw [cmpl_end _ _ _ (Nat.le_refl _) (by omega)]
        refine Ev.congr (fun k => by rw [if_neg (by omega)]) (Ev.now _)
    | succ d ih =>
      intro i hd hi hj
      refine Ev.step (fun k => by rw [slices_Compare_int_int.l0, if_pos (by omega), if_pos (by omega), if_pos (by omega)]) ?_
      by_cases h : i < b.length
      · refine Ev.congr (fun k => by rw [if_neg (by omega), if_pos (by omega), rd_at (by omega : i < a.length), rd_at h, cmpInt_at, Option.bind_some]) ?_
        rw [cmpl_drop _ _ _ (by omega) h]
        by_cases e2 : a[i] < b[i]
        · refine Ev.congr (fun k => by rw [if_pos e2, if_neg (by omega)]) ?_
          rw [if_pos e2]
          exact Ev.now _
        · by_cases e3 : a[i] > b[i]
          · refine Ev.congr (fun k => by rw [if_neg e2, if_pos e3, if_neg (by omega)]) ?_
            rw [if_neg e2, if_pos e3]
            exact Ev.now _
          · refine Ev.congr (fun k => by rw [if_neg e2, if_neg e3, if_pos rfl, wi (by omega)]) ?_
            rw [if_neg e2, if_neg e3]
            exact ih (i + 1) (by omega) (by omega) (by omega)
      · refine Ev.congr (fun k => by rw [if_pos (by omega)]) ?_
        rw [cmpl_endB _ _ _ (by omega) (by omega)]
        exact Ev.now _
  simpa [slices_Compare_int_int.f] using hfin a.length 0 (by omega) (by omega) (by omega)
def lex52 (x y : S52) : Bool := decide (x.f0 < y.f0) || (decide (x.f0 = y.f0) && decide (x.f1 < y.f1))
def stepOK (n : Int) (l : List S52) (j : Nat) : Bool := decide (0 ≤ (rd_T52 l j).f0) && decide ((rd_T52 l j).f0 < (rd_T52 l j).f1) && decide ((rd_T52 l j).f1 < n) && (decide (j = 0) || lex52 (rd_T52 l ((j : Int) - 1)) (rd_T52 l j))
theorem edge_at (x y : S52) : spec_l2Edge.f x.f0 x.f1 y.f0 y.f1 = some (lex52 x y) := by
  unfold spec_l2Edge.f lex52
  by_cases h : x.f0 < y.f0
  · simp [h]
  · by_cases h2 : x.f0 = y.f0
    · simp [h2]
    · simp [h, h2]
theorem comparePairs_at (x y : S52) : ∃ c, Ev (fun k => impl_comparePairs.f k x.f0 x.f1 y.f0 y.f1) c ∧ decide (c ≥ 0) = !(lex52 x y) := by
  have hor : ∀ a b : Int, Ev (fun k => cmp_Or_int.f k [a, b]) (if a = 0 then b else a) := by
    intro a b
    by_cases h : a = 0
    · rw [if_pos h]
      by_cases h2 : b = 0
      · refine Ev.step (fun k => by rw [cmp_Or_int.f, cmp_Or_int.l0, if_pos (by simp), if_pos (by omega), if_pos (by simp), if_pos (by simpa [rd] using h), w64_1]) ?_
        refine Ev.step (fun k => by rw [cmp_Or_int.l0, if_pos (by simp), if_pos (by omega), if_pos (by simp), if_pos (by simpa [rd] using h2), w64_2]) ?_
        refine Ev.step (fun k => by rw [cmp_Or_int.l0, if_neg (by simp)]) ?_
        rw [h2]
        exact Ev.now _
      · refine Ev.step (fun k => by rw [cmp_Or_int.f, cmp_Or_int.l0, if_pos (by simp), if_pos (by omega), if_pos (by simp), if_pos (by simpa [rd] using h), w64_1]) ?_
        refine Ev.step (fun k => by rw [cmp_Or_int.l0, if_pos (by simp), if_pos (by omega), if_pos (by simp), if_neg (by simpa [rd] using h2)]) ?_
        simpa [rd] using Ev.now b
    · rw [if_neg h]
      refine Ev.step (fun k => by rw [cmp_Or_int.f, cmp_Or_int.l0, if_pos (by simp), if_pos (by omega), if_pos (by simp), if_neg (by simpa [rd] using h)]) ?_
      simpa [rd] using Ev.now a
  refine ⟨_, Ev.congr (fun k => by rw [impl_comparePairs.f, cmpInt_at, Option.bind_some, cmpInt_at, Option.bind_some]) (Ev.bind (hor _ _) (Ev.now _)), ?_⟩
  unfold lex52
  by_cases h : x.f0 < y.f0
  · simp [h]
  · by_cases h2 : x.f0 > y.f0
    · have h3 : ¬ (x.f0 = y.f0) := by omega
      simp [h, h2, h3]
    · have h3 : x.f0 = y.f0 := by omega
      by_cases h4 : x.f1 < y.f1
      · simp [h3, h4]
      · by_cases h5 : x.f1 > y.f1
        · simp [h3, h4, h5]
        · simp [h3, h4, h5]
theorem l2Pairs_at (l : List S52) (n : Nat) (hl : l.length ≤ 4611686018427387903) (hn : n ≤ 4611686018427387903) : Ev (fun k => spec_l2Pairs.f k l (n : Int)) ((List.range l.length).all (stepOK n l)) := by
  have hfin := Ev.iter l.length (fun k i => spec_l2Pairs.l0 k l (n : Int) (i : Int)) (fun i => ((List.range l.length).drop i).all (stepOK n l)) (by
    intro i hi h
    refine Ev.step (fun k => by rw [spec_l2Pairs.l0, if_pos (by omega), if_pos (by omega), spec_l1In.f, wr (by omega) (by omega), spec_l1In.f]) ?_
    rw [all_range_drop _ _ _ hi]
    by_cases h1 : (rd_T52 l i).f0 ≥ 0
    · refine Ev.congr (fun k => by rw [if_pos h1, Option.bind_some]) ?_
      by_cases h2 : (rd_T52 l i).f0 ≤ (n : Int) - 1
      · refine Ev.congr (fun k => by rw [if_pos (decide_eq_true h2)]) ?_
        by_cases h3 : (rd_T52 l i).f1 ≥ 0
        · refine Ev.congr (fun k => by rw [if_pos h3, Option.bind_some]) ?_
          by_cases h4 : (rd_T52 l i).f1 ≤ (n : Int) - 1
          · refine Ev.congr (fun k => by rw [if_pos (decide_eq_true h4)]) ?_
            by_cases h5 : (rd_T52 l i).f0 ≥ (rd_T52 l i).f1
            · refine Ev.congr (fun k => by rw [if_pos h5]) ?_
              have : stepOK n l i = false := by simp [stepOK, h1]; omega
              rw [this]
              exact Ev.now _
            · refine Ev.congr (fun k => by rw [if_neg h5]) ?_
              by_cases h6 : i = 0
              · refine Ev.congr (fun k => by rw [if_neg (by omega), wi (by omega)]) ?_
                have : stepOK n l i = true := by simp [stepOK, h6] at *; omega
                rw [this]
                exact h
              · refine Ev.congr (fun k => by rw [if_pos (by omega), wr (by omega) (by omega), if_pos (by omega), if_pos (by omega), edge_at, Option.bind_some]) ?_
                have : stepOK n l i = lex52 (rd_T52 l ((i : Int) - 1)) (rd_T52 l i) := by
                  have e1 : (rd_T52 l i).f0 < (rd_T52 l i).f1 := by omega
                  have e2 : (rd_T52 l i).f1 < (n : Int) := by omega
                  simp [stepOK, h1, h6, e1, e2]
                rw [this]
                cases lex52 (rd_T52 l ((i : Int) - 1)) (rd_T52 l i) with
                | true => exact Ev.congr (fun k => by rw [if_pos rfl, wi (by omega)]) h
                | false => exact Ev.congr (fun k => by rw [if_neg (by simp)]) (by rw [Bool.false_and]; exact Ev.now _)
          · refine Ev.congr (fun k => by rw [if_neg (by simpa using h4)]) ?_
            have : stepOK n l i = false := by simp [stepOK]; omega
            rw [this]
            exact Ev.now _
        · refine Ev.congr (fun k => by rw [if_neg h3, Option.bind_some, if_neg (by simp)]) ?_
          have : stepOK n l i = false := by simp [stepOK]; omega
          rw [this]
          exact Ev.now _
      · refine Ev.congr (fun k => by rw [if_neg (by simpa using h2)]) ?_
        have : stepOK n l i = false := by simp [stepOK]; omega
        rw [this]
        exact Ev.now _
    · refine Ev.congr (fun k => by rw [if_neg h1, Option.bind_some, if_neg (by simp)]) ?_
      have : stepOK n l i = false := by simp [stepOK]; omega
      rw [this]
      exact Ev.now _) (by
    refine Ev.step (fun k => by rw [spec_l2Pairs.l0, if_neg (by omega)]) ?_
    rw [all_range_end]
    exact Ev.now _) 0 (by omega)
  simpa [spec_l2Pairs.f] using hfin
theorem isPairs_at (l : List S52) (n : Nat) (hl : l.length ≤ 4611686018427387903) (hn : n ≤ 4611686018427387903) : Ev (fun k => impl_isPairs.f k l (n : Int)) ((List.range l.length).all (stepOK n l)) := by
  have hfin := Ev.iter l.length (fun k i => impl_isPairs.l0 k l (n : Int) l (l.length : Int) (i : Int)) (fun i => ((List.range l.length).drop i).all (stepOK n l)) (by
    intro i hi h
    refine Ev.step (fun k => by rw [impl_isPairs.l0, if_pos (by omega), if_pos (by omega), if_pos (by omega)]) ?_
    rw [all_range_drop _ _ _ hi]
    by_cases h1 : (rd_T52 l i).f0 < 0
    · refine Ev.congr (fun k => by rw [if_pos h1]) ?_
      have : stepOK n l i = false := by simp [stepOK]; omega
      rw [this]
      exact Ev.now _
    · refine Ev.congr (fun k => by rw [if_neg h1]) ?_
      by_cases h2 : (rd_T52 l i).f0 ≥ (rd_T52 l i).f1
      · refine Ev.congr (fun k => by rw [if_pos h2]) ?_
        have : stepOK n l i = false := by simp [stepOK]; omega
        rw [this]
        exact Ev.now _
      · refine Ev.congr (fun k => by rw [if_neg h2]) ?_
        by_cases h3 : (rd_T52 l i).f1 ≥ (n : Int)
        · refine Ev.congr (fun k => by rw [if_pos h3]) ?_
          have : stepOK n l i = false := by simp [stepOK]; omega
          rw [this]
          exact Ev.now _
        · refine Ev.congr (fun k => by rw [if_neg h3]) ?_
          by_cases h6 : i = 0
          · refine Ev.congr (fun k => by rw [if_neg (by omega), wi (by omega)]) ?_
            have : stepOK n l i = true := by simp [stepOK, h6] at *; omega
            rw [this]
            exact h
          · obtain ⟨c, hc, he⟩ := comparePairs_at (rd_T52 l ((i : Int) - 1)) (rd_T52 l i)
            refine Ev.congr (fun k => by rw [if_pos (by omega), wr (by omega) (by omega), if_pos (by omega), if_pos (by omega)]) ?_
            refine Ev.bind hc ?_
            have : stepOK n l i = lex52 (rd_T52 l ((i : Int) - 1)) (rd_T52 l i) := by
              have e0 : (0 : Int) ≤ (rd_T52 l i).f0 := by omega
              have e1 : (rd_T52 l i).f0 < (rd_T52 l i).f1 := by omega
              have e2 : (rd_T52 l i).f1 < (n : Int) := by omega
              simp [stepOK, e0, h6, e1, e2]
            rw [this]
            revert he
            cases lex52 (rd_T52 l ((i : Int) - 1)) (rd_T52 l i) with
            | true => intro he; exact Ev.congr (fun k => by rw [if_neg (by simpa using he), wi (by omega)]) h
            | false => intro he; exact Ev.congr (fun k => by rw [if_pos (by simpa using he)]) (by rw [Bool.false_and]; exact Ev.now _)) (by
    refine Ev.step (fun k => by rw [impl_isPairs.l0, if_neg (by omega)]) ?_
    rw [all_range_end]
    exact Ev.now _) 0 (by omega)
  simpa [impl_isPairs.f] using hfin
def rowOK (st : List (List Int)) (j : Nat) : Bool := stateOK (rd_L1 st j) && (decide (j = 0) || decide (cmpl (rd_L1 st ((j : Int) - 1)) (rd_L1 st j) < 0))
def okSpace (st : List (List Int)) (sp : List S52) : Bool := decide (st.length ≤ 300) && decide (sp.length ≤ 6000) && ((List.range st.length).all (rowOK st) && (List.range sp.length).all (stepOK st.length sp))
theorem rd_L1_len {st : List (List Int)} (hr : ∀ x ∈ st, x.length ≤ 4611686018427387903) (i : Int) : (rd_L1 st i).length ≤ 4611686018427387903 := by
  unfold rd_L1
  rw [List.getD_eq_getElem?_getD]
  cases h : st[i.toNat]? with
  | none => simp
  | some x => exact hr x (List.mem_of_getElem? h)
theorem l2Space_at (st : List (List Int)) (sp : List S52) (hr : ∀ x ∈ st, x.length ≤ 4611686018427387903) : Ev (fun k => spec_l2Space.f k st sp) (okSpace st sp) := by
  by_cases h1 : st.length ≤ 300
  · refine Ev.congr (fun k => by rw [spec_l2Space.f, if_neg (by omega)]) ?_
    by_cases h2 : sp.length ≤ 6000
    · refine Ev.step (fun k => by rw [spec_l2Space.j0, if_neg (by simp; omega)]) ?_
      have hfin := Ev.iter st.length (fun k i => spec_l2Space.l0 k (i : Int) st sp) (fun i => ((List.range st.length).drop i).all (rowOK st) && (List.range sp.length).all (stepOK st.length sp)) (by
        intro i hi h
        refine Ev.step (fun k => by rw [spec_l2Space.l0, if_pos (by omega), if_pos (by omega)]) ?_
        rw [all_range_drop _ _ _ hi]
        refine Ev.bind (l2State_at _ (rd_L1_len hr _)) ?_
        cases hs : stateOK (rd_L1 st i) with
        | false =>
          refine Ev.congr (fun k => by rw [if_neg (by simp)]) ?_
          have : rowOK st i = false := by simp [rowOK, hs]
          rw [this]
          exact Ev.now _
        | true =>
          refine Ev.congr (fun k => by rw [if_pos rfl]) ?_
          by_cases h6 : i = 0
          · refine Ev.congr (fun k => by rw [if_neg (by omega), wi (by omega)]) ?_
            have : rowOK st i = true := by subst h6; simpa [rowOK] using hs
            rw [this]
            exact h
          · refine Ev.congr (fun k => by rw [if_pos (by omega), wr (by omega) (by omega), if_pos (by omega), if_pos (by omega)]) ?_
            refine Ev.bind (l2Before_at _ _ (rd_L1_len hr _) (rd_L1_len hr _)) ?_
            have : rowOK st i = decide (cmpl (rd_L1 st ((i : Int) - 1)) (rd_L1 st i) < 0) := by simp [rowOK, hs, h6]
            rw [this]
            cases decide (cmpl (rd_L1 st ((i : Int) - 1)) (rd_L1 st i) < 0) with
            | true => exact Ev.congr (fun k => by rw [if_pos rfl, wi (by omega)]) h
            | false => exact Ev.congr (fun k => by rw [if_neg (by simp)]) (by rw [Bool.false_and]; exact Ev.now _)) (by
        refine Ev.step (fun k => by rw [spec_l2Space.l0, if_neg (by omega)]) ?_
        refine Ev.bind (l2Pairs_at sp st.length (by omega) (by omega)) ?_
        rw [all_range_end]
        exact Ev.now _) 0 (by omega)
      simpa [okSpace, h1, h2] using hfin
    · refine Ev.step (fun k => by rw [spec_l2Space.j0, if_pos (by simp; omega)]) ?_
      simpa [okSpace, h2] using Ev.now false
  · refine Ev.congr (fun k => by rw [spec_l2Space.f, if_pos (by omega)]) ?_
    refine Ev.step (fun k => by rw [spec_l2Space.j0, if_pos rfl]) ?_
    simpa [okSpace, h1] using Ev.now false
theorem isSpace_at (st : List (List Int)) (sp : List S52) (hr : ∀ x ∈ st, x.length ≤ 4611686018427387903) : Ev (fun k => impl_IsSpace.f k st sp) (okSpace st sp) := by
  by_cases h1 : st.length ≤ 300
  · refine Ev.congr (fun k => by rw [impl_IsSpace.f, if_neg (by omega)]) ?_
    by_cases h2 : sp.length ≤ 6000
    · refine Ev.step (fun k => by rw [impl_IsSpace.j0, if_neg (by simp; omega)]) ?_
      have hfin := Ev.iter st.length (fun k i => impl_IsSpace.l0 k st (st.length : Int) (i : Int) st sp) (fun i => ((List.range st.length).drop i).all (rowOK st) && (List.range sp.length).all (stepOK st.length sp)) (by
        intro i hi h
        refine Ev.step (fun k => by rw [impl_IsSpace.l0, if_pos (by omega), if_pos (by omega), if_pos (by omega), isState_at, Option.bind_some]) ?_
        rw [all_range_drop _ _ _ hi]
        cases hs : stateOK (rd_L1 st i) with
        | false =>
          refine Ev.congr (fun k => by rw [if_neg (by simp)]) ?_
          have : rowOK st i = false := by simp [rowOK, hs]
          rw [this]
          exact Ev.now _
        | true =>
          refine Ev.congr (fun k => by rw [if_pos rfl]) ?_
          by_cases h6 : i = 0
          · refine Ev.congr (fun k => by rw [if_neg (by omega), wi (by omega)]) ?_
            have : rowOK st i = true := by subst h6; simpa [rowOK] using hs
            rw [this]
            exact h
          · refine Ev.congr (fun k => by rw [if_pos (by omega), wr (by omega) (by omega), if_pos (by omega), if_pos (by omega)]) ?_
            refine Ev.bind (compare_at _ _ (rd_L1_len hr _) (rd_L1_len hr _)) ?_
            by_cases hc : cmpl (rd_L1 st ((i : Int) - 1)) (rd_L1 st i) < 0
            · have : rowOK st i = true := by simp [rowOK, hs, h6, hc]
              rw [this]
              exact Ev.congr (fun k => by rw [if_neg (by omega), wi (by omega)]) h
            · have : rowOK st i = false := by simp [rowOK, hs, h6, hc]
              rw [this]
              rw [Bool.false_and, Bool.false_and]
              exact Ev.congr (fun k => by rw [if_pos (by omega)]) (Ev.now _)) (by
        refine Ev.step (fun k => by rw [impl_IsSpace.l0, if_neg (by omega)]) ?_
        refine Ev.bind (isPairs_at sp st.length (by omega) (by omega)) ?_
        rw [all_range_end]
        exact Ev.now _) 0 (by omega)
      simpa [okSpace, h1, h2] using hfin
    · refine Ev.step (fun k => by rw [impl_IsSpace.j0, if_pos (by simp; omega)]) ?_
      simpa [okSpace, h2] using Ev.now false
  · refine Ev.congr (fun k => by rw [impl_IsSpace.f, if_pos (by omega)]) ?_
    refine Ev.step (fun k => by rw [impl_IsSpace.j0, if_pos rfl]) ?_
    simpa [okSpace, h1] using Ev.now false
end Go.Proofs.Ytiimbndjggebdaa.Q
