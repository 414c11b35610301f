/- The law of the merge heights ends in true, whatever comes in. Conditions: none. -/
import Derived.Test.YtiimbndjggebdaaC3Merge
import Derived.Test.YtiimbndjggebdaaC3Q37
namespace Go.Proofs.Ytiimbndjggebdaa.Q
open Go.RowKit Go.Proofs.YtiimbndjggebdaaW.PrintWords Go.Proofs.YtiimbndjggebdaaW.PrintLast Go.Proofs.YtiimbndjggebdaaW.PrintMore
set_option linter.unusedVariables false
set_option linter.unusedSimpArgs false
theorem mergeLaw_at (st : List (List Int)) (sp : List S52) (hs : List Int) (hl0 : st.length ≤ 9223372036854775807) (hr0 : ∀ x ∈ st, x.length ≤ 9223372036854775807) (hl1 : sp.length ≤ 9223372036854775807) : Ev (fun k => laws_FnExactMergeHeights.f k st sp hs) true := by
  by_cases hc : (hs.length : Int) > 1048576
  · exact Ev.congr (fun k => by rw [laws_FnExactMergeHeights.f, if_pos hc]) (Ev.now _)
  refine Ev.congr (fun k => by rw [laws_FnExactMergeHeights.f, if_neg hc]) ?_
  refine Ev.bind (szSpace_at st sp hl0 hr0 hl1) ?_
  by_cases hz : (st.length : Int) + total st + sp.length ≤ 1048576
  case neg =>
    rw [if_neg hz]
    exact Ev.now _
  rw [if_pos hz]
  have hst : st.length ≤ 1048576 := by omega
  have hsp : sp.length ≤ 1048576 := by omega
  have hhs : hs.length ≤ 1048576 := by omega
  have hrow : ∀ x ∈ st, x.length ≤ 1048576 := fun x hx => by have := total_mem st x hx; omega
  have hrow2 : ∀ x ∈ st, x.length ≤ 4611686018427387903 := fun x hx => by have := hrow x hx; omega
  have hS := toSpace_id st sp hst hrow hsp
  have hH := toIntS_id hs hhs
  have hEH := eqIntS_refl hs (by omega)
  have hES := eqSpace_refl st sp (by omega) hrow2 (by omega)
  obtain ⟨r, hA, hB, hlen⟩ := merge_at st sp hs hrow hhs
  have hER := eqIntS_refl r.1 (by omega)
  refine Ev.congr (fun k => by rw [if_neg (by omega)]) ?_
  refine Ev.bind hS ?_
  refine Ev.bind hH ?_
  refine Ev.bind hA ?_
  refine Ev.bind hS ?_
  refine Ev.bind hH ?_
  refine Ev.bind hB ?_
  refine Ev.bind hER ?_
  refine Ev.congr (fun k => by rw [if_pos rfl]) ?_
  refine Ev.step (fun k => by rw [laws_FnExactMergeHeights.j0, if_neg (by simp)]) ?_
  refine Ev.bind hS ?_
  refine Ev.bind hES ?_
  refine Ev.congr (fun k => by rw [if_pos rfl]) ?_
  refine Ev.bind hH ?_
  refine Ev.bind hEH ?_
  refine Ev.congr (fun k => by rw [if_pos rfl]) ?_
  refine Ev.bind (markSpace_at st sp 1 (by omega) (by omega) (by omega)) ?_
  refine Ev.bind (markIntS_at hs _ (by omega) (by omega)) ?_
  refine Ev.congr (fun k => by rw [if_neg (by simp only []; omega)]) ?_
  refine Ev.bind hER ?_
  refine Ev.congr (fun k => by rw [if_pos rfl]) ?_
  refine Ev.step (fun k => by rw [laws_FnExactMergeHeights.j1, if_neg (by simp)]) ?_
  refine Ev.bind (markIntS_at r.1 1 (by omega) (by omega)) ?_
  refine Ev.bind (heldIntS_at r.1.length 1 (by omega) (by omega)) ?_
  refine Ev.congr (fun k => by rw [if_neg (by omega), if_pos rfl]) ?_
  refine Ev.bind hS ?_
  refine Ev.bind hH ?_
  refine Ev.bind hB ?_
  refine Ev.bind hER ?_
  refine Ev.congr (fun k => by rw [if_pos rfl]) ?_
  refine Ev.step (fun k => by rw [laws_FnExactMergeHeights.j2, if_neg (by simp)]) ?_
  refine Ev.bind (heldIntS_at r.1.length 1 (by omega) (by omega)) ?_
  exact Ev.congr (fun k => by rw [if_neg (by omega), if_pos rfl]) (Ev.now _)
end Go.Proofs.Ytiimbndjggebdaa.Q
