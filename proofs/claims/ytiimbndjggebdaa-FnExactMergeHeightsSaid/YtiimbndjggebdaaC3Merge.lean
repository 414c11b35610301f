/- The heights at which parts merge: the program's and the reference's are one. Conditions: none. -/
import Derived.Test.YtiimbndjggebdaaC3Induced
import Derived.Test.YtiimbndjggebdaaC3Q30
import Derived.Test.YtiimbndjggebdaaC3Q36
namespace Go.Proofs.Ytiimbndjggebdaa.Q
open Go.RowKit Go.Proofs.YtiimbndjggebdaaW.PrintWords Go.Proofs.YtiimbndjggebdaaW.PrintLast Go.Proofs.YtiimbndjggebdaaW.PrintMore
set_option linter.unusedVariables false
set_option linter.unusedSimpArgs false
def undT (hs : List Int) (h : Int) (i : Nat) : List Int := ((List.range i).filter (fun j : Nat => decide (rd hs (j : Int) ≤ h))).map (fun j : Nat => (j : Int))
def und (hs : List Int) (h : Int) : List Int := undT hs h hs.length
theorem undT_succ (hs : List Int) (h : Int) (i : Nat) : undT hs h (i + 1) = undT hs h i ++ (if rd hs (i : Int) ≤ h then [(i : Int)] else []) := by
  unfold undT
  rw [List.range_succ, List.filter_append, List.map_append]
  congr 1
  by_cases e : rd hs (i : Int) ≤ h <;> simp [e]
theorem undT_len (hs : List Int) (h : Int) (i : Nat) : (undT hs h i).length ≤ i := by
  unfold undT
  rw [List.length_map]
  have := List.length_filter_le (fun j : Nat => decide (rd hs (j : Int) ≤ h)) (List.range i)
  simpa using this
theorem und_rising (hs : List Int) (h : Int) : Rising hs.length (und hs h) := by
  refine ⟨?_, ?_⟩
  · unfold und undT
    rw [List.pairwise_map]
    exact (List.Pairwise.filter _ List.pairwise_lt_range).imp (fun h => by omega)
  · intro c hc
    obtain ⟨j, hj, rfl⟩ := List.mem_map.1 hc
    have := List.mem_range.1 (List.mem_filter.1 hj).1
    omega
theorem l11Under_at (hs : List Int) (h : Int) (hl : hs.length ≤ 1048576) : Ev (fun k => spec_l11Under.f k hs h) (und hs h) := by
  exact Ev.iter hs.length (fun k i => spec_l11Under.l0 k hs h (undT hs h i) (i : Int)) (fun _ => und hs h) (by
    intro i hi hx
    have hlen := undT_len hs h i
    rw [undT_succ] at hx
    refine Ev.step (fun k => by rw [spec_l11Under.l0, if_pos (by omega), if_pos (by omega)]) ?_
    by_cases e : rd hs (i : Int) ≤ h
    · rw [if_pos e] at hx
      exact Ev.congr (fun k => by rw [if_pos e, if_pos (by omega), wi (by omega)]) hx
    · rw [if_neg e, List.append_nil] at hx
      exact Ev.congr (fun k => by rw [if_neg e, wi (by omega)]) hx) (by
    exact Ev.step (fun k => by rw [spec_l11Under.l0, if_neg (by omega)]; rfl) (Ev.now _)) 0 (by omega)
theorem below_at (hs : List Int) (h : Int) (hl : hs.length ≤ 1048576) : Ev (fun k => impl_below.f k hs h) (und hs h) := by
  exact Ev.iter hs.length (fun k i => impl_below.l0 k h (undT hs h i) hs (hs.length : Int) (i : Int)) (fun _ => und hs h) (by
    intro i hi hx
    have hlen := undT_len hs h i
    rw [undT_succ] at hx
    refine Ev.step (fun k => by rw [impl_below.l0, if_pos (by omega), if_pos (by omega), if_pos (by omega)]) ?_
    by_cases e : rd hs (i : Int) ≤ h
    · rw [if_pos e] at hx
      exact Ev.congr (fun k => by rw [if_pos e, if_pos (by omega), wi (by omega)]) hx
    · rw [if_neg e, List.append_nil] at hx
      exact Ev.congr (fun k => by rw [if_neg e, wi (by omega)]) hx) (by
    exact Ev.step (fun k => by rw [impl_below.l0, if_neg (by omega)]; rfl) (Ev.now _)) 0 (by omega)
def loadsOK (n : Nat) (hs : List Int) : Bool := hs.all (fun v => decide (0 ≤ v) && decide (v ≤ 999)) && decide ((hs.length : Int) = (n : Int))
def okHigh (st : List (List Int)) (sp : List S52) (hs : List Int) : Bool := okSpace st sp && loadsOK st.length hs
theorem l11Numbers_at (n : Nat) (hs : List Int) (hl : hs.length ≤ 1048576) : Ev (fun k => spec_l11Numbers.f k hs (n : Int)) (loadsOK n hs) := by
  have hfin := Ev.iter hs.length (fun k i => spec_l11Numbers.l0 k hs (n : Int) (i : Int)) (fun i => (hs.drop i).all (fun v => decide (0 ≤ v) && decide (v ≤ 999)) && decide ((hs.length : Int) = (n : Int))) (by
    intro i hi h
    refine Ev.step (fun k => by rw [spec_l11Numbers.l0, if_pos (by omega), if_pos (by omega), rd_at hi, spec_l1In.f]) ?_
    rw [all_drop _ _ _ hi]
    by_cases h1 : hs[i] ≥ 0
    · refine Ev.congr (fun k => by rw [if_pos h1, Option.bind_some]) ?_
      by_cases h2 : hs[i] ≤ 999
      · refine Ev.congr (fun k => by rw [if_pos (decide_eq_true h2), wi (by omega)]) ?_
        simpa [h1, h2] using h
      · refine Ev.congr (fun k => by rw [if_neg (by simpa using h2)]) ?_
        simpa [h2] using Ev.now false
    · refine Ev.congr (fun k => by rw [if_neg h1, Option.bind_some, if_neg (by simp)]) ?_
      simpa [h1] using Ev.now false) (by
    refine Ev.step (fun k => by rw [spec_l11Numbers.l0, if_neg (by omega)]) ?_
    rw [List.drop_length]
    exact Ev.now _) 0 (by omega)
  simpa [spec_l11Numbers.f, loadsOK] using hfin
theorem areLoads_at (n : Nat) (hs : List Int) : impl_areLoads.f hs (n : Int) = some (loadsOK n hs) := by
  unfold impl_areLoads.f loadsOK
  rw [Bool.and_comm, List.not_any_eq_all_not]
  simp
theorem l11Heights_at (st : List (List Int)) (sp : List S52) (hs : List Int) (hr : ∀ x ∈ st, x.length ≤ 1048576) (hl : hs.length ≤ 1048576) : Ev (fun k => spec_l11Heights.f k st sp hs) (okHigh st sp hs) := by
  refine Ev.bind (l2Space_at st sp (fun x hx => by have := hr x hx; omega)) ?_
  unfold okHigh
  cases okSpace st sp with
  | false => exact Ev.now _
  | true =>
    refine Ev.congr (fun k => by rw [if_pos rfl]) ?_
    refine Ev.bind (l11Numbers_at _ hs hl) ?_
    rw [Bool.true_and]
    exact Ev.now _
theorem isHigh_at (st : List (List Int)) (sp : List S52) (hs : List Int) (hr : ∀ x ∈ st, x.length ≤ 1048576) : Ev (fun k => impl_isHigh.f k st sp hs) (okHigh st sp hs) := by
  refine Ev.bind (isSpace_at st sp (fun x hx => by have := hr x hx; omega)) ?_
  unfold okHigh
  cases okSpace st sp with
  | false => exact Ev.now _
  | true =>
    refine Ev.congr (fun k => by rw [if_pos rfl, areLoads_at, Option.bind_some]) ?_
    rw [Bool.true_and]
    exact Ev.now _
def many (hs : List Int) (h : Int) (i : Nat) : Nat := ((hs.take i).filter (fun v => decide (v = h))).length
theorem many_succ (hs : List Int) (h : Int) (i : Nat) (hi : i < hs.length) : many hs h (i + 1) = many hs h i + if hs[i] = h then 1 else 0 := by
  unfold many
  rw [List.take_succ_eq_append_getElem hi, List.filter_append, List.length_append]
  by_cases e : hs[i] = h <;> simp [e]
theorem many_le (hs : List Int) (h : Int) (i : Nat) : many hs h i ≤ hs.length := by
  unfold many
  have := List.length_filter_le (fun v => decide (v = h)) (hs.take i)
  rw [List.length_take] at this
  omega
theorem merge_l0 (st : List (List Int)) (sp : List S52) (hs : List Int) (hv : okSpace st sp = true) (hr : ∀ x ∈ st, x.length ≤ 1048576) (hl : hs.length = st.length) : ∀ (d h : Nat) (out : List Int) (before : Nat), 1000 - h = d → h ≤ 1000 → before ≤ 300 → out.length ≤ 600 * h → ∃ r, Ev (fun k => spec_MergeHeights.l0 k hs out (before : Int) (h : Int) st sp) r ∧ Ev (fun k => impl_MergeHeights.l0 k hs out (before : Int) (h : Int) st sp) r ∧ r.1.length ≤ 600000 := by
  obtain ⟨hn, hm, ok⟩ := okSpace_steps hv
  intro d
  induction d with
  | zero =>
    intro h out before hd hh hb ho
    obtain rfl : h = 1000 := by omega
    refine ⟨(out, true), Ev.step (fun k => by rw [spec_MergeHeights.l0, if_neg (by omega)]) (Ev.now _), Ev.step (fun k => by rw [impl_MergeHeights.l0, if_neg (by omega)]) (Ev.now _), by simpa using ho⟩
  | succ d ih =>
    intro h out before hd hh hb ho
    have hS : ∀ r, Ev (fun k => spec_MergeHeights.l1 k hs out (before : Int) (h : Int) (many hs h hs.length : Int) (hs.length : Int) st sp) r → Ev (fun k => spec_MergeHeights.l0 k hs out (before : Int) (h : Int) st sp) r := by
      intro r hx
      refine Ev.step (fun k => by rw [spec_MergeHeights.l0, if_pos (by omega)]) ?_
      have := Ev.iter hs.length (fun k i => spec_MergeHeights.l1 k hs out (before : Int) (h : Int) (many hs h i : Int) (i : Int) st sp) (fun _ => r) (by
        intro i hi hy
        have := many_le hs h i
        rw [many_succ _ _ _ hi] at hy
        refine Ev.step (fun k => by rw [spec_MergeHeights.l1, if_pos (by omega), if_pos (by omega), rd_at hi]) ?_
        by_cases e : hs[i] = (h : Int)
        · rw [if_pos e] at hy
          exact Ev.congr (fun k => by rw [if_pos e, wi (by omega), wi (by omega)]) hy
        · rw [if_neg e, Nat.add_zero] at hy
          exact Ev.congr (fun k => by rw [if_neg e, wi (by omega)]) hy) hx 0 (by omega)
      simpa [many] using this
    have hI : ∀ r, Ev (fun k => impl_MergeHeights.l1 k hs out (before : Int) (h : Int) (many hs h hs.length : Int) (h : Int) hs (hs.length : Int) (hs.length : Int) st sp) r → Ev (fun k => impl_MergeHeights.l0 k hs out (before : Int) (h : Int) st sp) r := by
      intro r hx
      refine Ev.step (fun k => by rw [impl_MergeHeights.l0, if_pos (by omega)]) ?_
      have := Ev.iter hs.length (fun k i => impl_MergeHeights.l1 k hs out (before : Int) (h : Int) (many hs h i : Int) (h : Int) hs (hs.length : Int) (i : Int) st sp) (fun _ => r) (by
        intro i hi hy
        have := many_le hs h i
        rw [many_succ _ _ _ hi] at hy
        refine Ev.step (fun k => by rw [impl_MergeHeights.l1, if_pos (by omega), if_pos (by omega), if_pos (by omega), rd_at hi]) ?_
        by_cases e : hs[i] = (h : Int)
        · rw [if_pos e] at hy
          exact Ev.congr (fun k => by rw [if_pos e, wi (by omega), wi (by omega)]) hy
        · rw [if_neg e, Nat.add_zero] at hy
          exact Ev.congr (fun k => by rw [if_neg e, wi (by omega)]) hy) hx 0 (by omega)
      simpa [many] using this
    have hmany := many_le hs h hs.length
    by_cases hz : many hs h hs.length = 0
    · obtain ⟨r, h1, h2, h3⟩ := ih (h + 1) out before (by omega) (by omega) hb (by omega)
      refine ⟨r, hS r ?_, hI r ?_, h3⟩
      · exact Ev.step (fun k => by rw [spec_MergeHeights.l1, if_neg (by omega), if_pos (by omega), wi (by omega)]) h1
      · exact Ev.step (fun k => by rw [impl_MergeHeights.l1, if_neg (by omega), if_pos (by omega), wi (by omega)]) h2
    · have hR : Rising st.length (und hs h) := hl ▸ und_rising hs h
      have hfew := hR.few
      have hok := ind_ok ok hR
      have hil := ind_len sp (und hs h)
      have N := nbs_of (show (und hs h).length ≤ 1048576 by omega) (by omega) hok
      have hlen : ((und hs h).map (rd_L1 st)).length = (und hs h).length := by simp
      have hL : Ev (fun k => spec_l2Lists.f k ((und hs h).map (rd_L1 st)) (ind sp (und hs h))) (lists (und hs h).length (ind sp (und hs h))) := by
        have := l2Lists_at ((und hs h).map (rd_L1 st)) (ind sp (und hs h)) (by omega) (by omega) (by rw [hlen]; exact hok.rng)
        rwa [hlen] at this
      have hRd : Ev (fun k => impl_Space_roads.f k ((und hs h).map (rd_L1 st)) (ind sp (und hs h))) (lists (und hs h).length (ind sp (und hs h))) := by
        have := roads_at ((und hs h).map (rd_L1 st)) (ind sp (und hs h)) (by omega) (by omega) (by rw [hlen]; exact hok)
        rwa [hlen] at this
      obtain ⟨ps, hps, hpl⟩ := l2Parts_at _ _ hL N
      obtain ⟨pi, hpi, hpil⟩ := parts_at N
      have hc := cnt_le (lists (und hs h).length (ind sp (und hs h))) (und hs h).length
      generalize hnow : cnt (lists (und hs h).length (ind sp (und hs h))) (und hs h).length = now at *
      obtain ⟨r, h1, h2, h3⟩ := ih (h + 1) (out ++ List.replicate ((before : Int) + many hs h hs.length - now).toNat (h : Int)) now (by omega) (by omega) (by omega) (by simp; omega)
      refine ⟨r, hS r ?_, hI r ?_, h3⟩
      · refine Ev.step (fun k => by rw [spec_MergeHeights.l1, if_neg (by omega), if_neg (by omega)]) ?_
        refine Ev.bind (l11Under_at hs h (by omega)) ?_
        refine Ev.bind (l2Induced_at st sp _ (by omega) (by omega) ok hr hR) ?_
        refine Ev.bind hps ?_
        have := Ev.iter ((before : Int) + many hs h hs.length - now).toNat (fun k j => spec_MergeHeights.l2 k hs (out ++ List.replicate j (h : Int)) (h : Int) (now : Int) ((before : Int) + many hs h hs.length - now - (j : Int)) st sp) (fun _ => r) (by
          intro j hj hx
          rw [List.replicate_succ', ← List.append_assoc] at hx
          refine Ev.step (fun k => by rw [spec_MergeHeights.l2, if_pos (by omega), if_pos (by simp; omega), wr (by omega) (by omega), show (before : Int) + many hs h hs.length - now - (j : Int) - 1 = (before : Int) + many hs h hs.length - now - ((j + 1 : Nat) : Int) by omega]) hx) (by
          exact Ev.step (fun k => by rw [spec_MergeHeights.l2, if_neg (by omega), wi (by omega)]) h1) 0 (by omega)
        refine Ev.congr (fun k => by rw [hpl, wr (x := (before : Int) + many hs h hs.length) (by omega) (by omega), wr (by omega) (by omega)]) ?_
        simpa using this
      · refine Ev.step (fun k => by rw [impl_MergeHeights.l1, if_neg (by omega), if_neg (by omega)]) ?_
        refine Ev.bind (below_at hs h (by omega)) ?_
        refine Ev.bind (InducedSpace_at st sp _ hv hr hR) ?_
        refine Ev.bind hRd ?_
        refine Ev.bind hpi ?_
        have := Ev.iter ((before : Int) + many hs h hs.length - now).toNat (fun k j => impl_MergeHeights.l2 k hs (out ++ List.replicate j (h : Int)) (h : Int) (now : Int) (h : Int) ((before : Int) + many hs h hs.length - now) (j : Int) st sp) (fun _ => r) (by
          intro j hj hx
          rw [List.replicate_succ', ← List.append_assoc] at hx
          refine Ev.step (fun k => by rw [impl_MergeHeights.l2, if_pos (by omega), if_pos (by simp; omega), wi (by omega)]) hx) (by
          exact Ev.step (fun k => by rw [impl_MergeHeights.l2, if_neg (by omega), wi (by omega)]) h2) 0 (by omega)
        refine Ev.congr (fun k => by rw [hpil, wr (x := (before : Int) + many hs h hs.length) (by omega) (by omega), wr (by omega) (by omega)]) ?_
        simpa using this
theorem merge_at (st : List (List Int)) (sp : List S52) (hs : List Int) (hr : ∀ x ∈ st, x.length ≤ 1048576) (hl : hs.length ≤ 1048576) : ∃ r, Ev (fun k => spec_MergeHeights.f k st sp hs) r ∧ Ev (fun k => impl_MergeHeights.f k st sp hs) r ∧ r.1.length ≤ 600000 := by
  have hA := l11Heights_at st sp hs hr hl
  have hB := isHigh_at st sp hs hr
  cases h : okHigh st sp hs with
  | false =>
    rw [h] at hA hB
    refine ⟨([], false), ?_, ?_, by simp⟩
    · refine Ev.congr (fun k => by rw [spec_MergeHeights.f, Option.bind_some]) ?_
      refine Ev.bind hA ?_
      exact Ev.now _
    · refine Ev.bind hB ?_
      exact Ev.now _
  | true =>
    rw [h] at hA hB
    simp only [okHigh, loadsOK, Bool.and_eq_true, decide_eq_true_eq] at h
    obtain ⟨r, h1, h2, h3⟩ := merge_l0 st sp hs h.1 hr (by omega) 1000 0 [] 0 (by omega) (by omega) (by omega) (by simp)
    refine ⟨r, ?_, ?_, h3⟩
    · refine Ev.congr (fun k => by rw [spec_MergeHeights.f, Option.bind_some]) ?_
      refine Ev.bind hA ?_
      exact h1
    · refine Ev.bind hB ?_
      exact h2
end Go.Proofs.Ytiimbndjggebdaa.Q
