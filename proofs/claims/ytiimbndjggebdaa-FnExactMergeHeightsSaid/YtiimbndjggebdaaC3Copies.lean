/- General lemmas on rounds of printed loops, and what the laws' own helpers (copies, comparisons, marks) come to. Conditions: none. -/
import Derived.Test.YtiimbndjggebdaaC3Q1
import Derived.Test.YtiimbndjggebdaaC3Q12
import Derived.Test.YtiimbndjggebdaaC3Q19
import Derived.Test.YtiimbndjggebdaaC3Q22
import Derived.Test.YtiimbndjggebdaaC3Q24
import Derived.Test.YtiimbndjggebdaaC3Q25
namespace Go.Proofs.Ytiimbndjggebdaa.Q
open Go.RowKit Go.Proofs.YtiimbndjggebdaaW.PrintWords Go.Proofs.YtiimbndjggebdaaW.PrintLast Go.Proofs.YtiimbndjggebdaaW.PrintMore
set_option linter.unusedVariables false
set_option linter.unusedSimpArgs false
theorem wr {x : Int} (h0 : -9223372036854775808 ≤ x) (h1 : x ≤ 9223372036854775807) : wrap64 x = x := by unfold wrap64; omega
theorem wi {i : Nat} (h : i < 4611686018427387904) : wrap64 ((i : Int) + 1) = ((i + 1 : Nat) : Int) := by unfold wrap64; omega
theorem rd_at {xs : List Int} {i : Nat} (h : i < xs.length) : rd xs (i : Int) = xs[i] := by simp [rd, List.getD, h]
theorem rd_L1_at {xs : List (List Int)} {i : Nat} (h : i < xs.length) : rd_L1 xs (i : Int) = xs[i] := by simp [rd_L1, List.getD, h]
theorem rd_T52_at {xs : List S52} {i : Nat} (h : i < xs.length) : rd_T52 xs (i : Int) = xs[i] := by simp [rd_T52, List.getD, h]
theorem Ev.iter {ρ : Type} (n : Nat) (G : Nat → Nat → Option ρ) (r : Nat → ρ) (hs : ∀ i, i < n → Ev (fun k => G k (i + 1)) (r (i + 1)) → Ev (fun k => G k i) (r i)) (he : Ev (fun k => G k n) (r n)) : ∀ i, i ≤ n → Ev (fun k => G k i) (r i) := by
  intro i hi
  obtain ⟨d, hd⟩ : ∃ d, n - i = d := ⟨_, rfl⟩
  induction d generalizing i with
  | zero => obtain rfl : i = n := by omega
            exact he
  | succ d ih => exact hs i (by omega) (ih (i + 1) (by omega) (by omega))
theorem fill_step {α : Type} (xs : List α) (z : α) (i : Nat) (h : i < xs.length) : (xs.take i ++ List.replicate (xs.length - i) z).set i xs[i] = xs.take (i + 1) ++ List.replicate (xs.length - (i + 1)) z := by
  rw [List.set_append_right _ _ (by simp; omega)]
  have : i - (xs.take i).length = 0 := by simp; omega
  rw [this, show xs.length - i = (xs.length - (i + 1)) + 1 by omega, List.replicate_succ, List.set_cons_zero, List.take_succ_eq_append_getElem h, List.append_assoc]
  rfl
theorem toIntS_id (l : List Int) (hl : l.length ≤ 1048576) : Ev (fun k => laws_toIntS.f k l) l := by
  have hfin := Ev.iter l.length (fun k i => laws_toIntS.l0 k l (i : Int) (l.take i ++ List.replicate (l.length - i) 0)) (fun _ => l) (by
    intro i hi h
    refine Ev.step (fun k => by rw [laws_toIntS.l0, if_pos (by omega), if_pos (by omega), if_pos (by simp; omega), wi (by omega), Int.toNat_natCast, rd_at hi, fill_step l 0 i hi]) h) (by
    refine Ev.step (fun k => by rw [laws_toIntS.l0, if_neg (by omega)]) ?_
    simpa using Ev.now l) 0 (by omega)
  refine Ev.congr (fun k => by rw [laws_toIntS.f, if_pos (by omega), if_pos (by omega), Int.toNat_natCast]) ?_
  simpa using hfin
theorem toIntSS_id (l : List (List Int)) (hl : l.length ≤ 1048576) (hr : ∀ x ∈ l, x.length ≤ 1048576) : Ev (fun k => laws_toIntSS.f k l) l := by
  have hfin := Ev.iter l.length (fun k i => laws_toIntSS.l0 k l (i : Int) (l.take i ++ List.replicate (l.length - i) [])) (fun _ => l) (by
    intro i hi h
    refine Ev.step (fun k => by rw [laws_toIntSS.l0, if_pos (by omega), if_pos (by omega), rd_L1_at hi]) ?_
    refine Ev.bind (toIntS_id _ (hr _ (List.getElem_mem hi))) ?_
    refine Ev.congr (fun k => by rw [if_pos (by simp; omega), wi (by omega), Int.toNat_natCast, fill_step l [] i hi]) h) (by
    refine Ev.step (fun k => by rw [laws_toIntSS.l0, if_neg (by omega)]) ?_
    simpa using Ev.now l) 0 (by omega)
  refine Ev.congr (fun k => by rw [laws_toIntSS.f, if_pos (by omega), if_pos (by omega), Int.toNat_natCast]) ?_
  simpa using hfin
theorem toIntA2_id (a b : Int) : Ev (fun k => laws_toIntA2.f k a b) (a, b) := by
  refine Ev.step (fun k => by rw [laws_toIntA2.f, laws_toIntA2.l0, if_pos (by omega), if_pos rfl, w64_1]) ?_
  refine Ev.step (fun k => by rw [laws_toIntA2.l0, if_pos (by omega), if_neg (by omega), if_pos rfl, w64_2]) ?_
  refine Ev.step (fun k => by rw [laws_toIntA2.l0, if_neg (by omega)]) ?_
  exact Ev.now _
theorem toIntA2S_id (l : List S52) (hl : l.length ≤ 1048576) : Ev (fun k => laws_toIntA2S.f k l) l := by
  have hfin := Ev.iter l.length (fun k i => laws_toIntA2S.l0 k l (i : Int) (l.take i ++ List.replicate (l.length - i) z52)) (fun _ => l) (by
    intro i hi h
    refine Ev.step (fun k => by rw [laws_toIntA2S.l0, if_pos (by omega), if_pos (by omega), rd_T52_at hi]) ?_
    refine Ev.bind (toIntA2_id _ _) ?_
    refine Ev.congr (fun k => by rw [if_pos (by simp; omega), wi (by omega), Int.toNat_natCast, fill_step l z52 i hi]) h) (by
    refine Ev.step (fun k => by rw [laws_toIntA2S.l0, if_neg (by omega)]) ?_
    simpa using Ev.now l) 0 (by omega)
  refine Ev.congr (fun k => by rw [laws_toIntA2S.f, if_pos (by omega), if_pos (by omega), Int.toNat_natCast]) ?_
  simpa using hfin
theorem toSpace_id (l0 : List (List Int)) (l1 : List S52) (h0 : l0.length ≤ 1048576) (hr : ∀ x ∈ l0, x.length ≤ 1048576) (h1 : l1.length ≤ 1048576) : Ev (fun k => laws_toSpace.f k l0 l1) (l0, l1) := by
  refine Ev.bind (toIntSS_id l0 h0 hr) ?_
  refine Ev.bind (toIntA2S_id l1 h1) ?_
  exact Ev.now _
theorem eqIntS_refl (l : List Int) (hl : l.length ≤ 4611686018427387903) : Ev (fun k => laws_eqIntS.f k l l) true := by
  refine Ev.congr (fun k => by rw [laws_eqIntS.f, if_pos rfl]) ?_
  exact Ev.iter l.length (fun k i => laws_eqIntS.l0 k l l (i : Int)) (fun _ => true) (by
    intro i hi h
    refine Ev.step (fun k => by rw [laws_eqIntS.l0, if_pos (by omega), if_pos (by omega), if_pos (by omega), if_pos rfl, wi (by omega)]) h) (by
    refine Ev.step (fun k => by rw [laws_eqIntS.l0, if_neg (by omega)]) ?_
    exact Ev.now _) 0 (by omega)
theorem eqIntSS_refl (l : List (List Int)) (hl : l.length ≤ 4611686018427387903) (hr : ∀ x ∈ l, x.length ≤ 4611686018427387903) : Ev (fun k => laws_eqIntSS.f k l l) true := by
  refine Ev.congr (fun k => by rw [laws_eqIntSS.f, if_pos rfl]) ?_
  exact Ev.iter l.length (fun k i => laws_eqIntSS.l0 k l l (i : Int)) (fun _ => true) (by
    intro i hi h
    refine Ev.step (fun k => by rw [laws_eqIntSS.l0, if_pos (by omega), if_pos (by omega), if_pos (by omega), rd_L1_at hi]) ?_
    refine Ev.bind (eqIntS_refl _ (hr _ (List.getElem_mem hi))) ?_
    refine Ev.congr (fun k => by rw [if_pos rfl, wi (by omega)]) h) (by
    refine Ev.step (fun k => by rw [laws_eqIntSS.l0, if_neg (by omega)]) ?_
    exact Ev.now _) 0 (by omega)
theorem eqIntA2_refl (a b : Int) : Ev (fun k => laws_eqIntA2.f k a b a b) true := by
  refine Ev.step (fun k => by rw [laws_eqIntA2.f, laws_eqIntA2.l0, if_pos (by omega), if_pos rfl, if_pos rfl, w64_1]) ?_
  refine Ev.step (fun k => by rw [laws_eqIntA2.l0, if_pos (by omega), if_neg (by omega), if_pos rfl, if_pos rfl, w64_2]) ?_
  refine Ev.step (fun k => by rw [laws_eqIntA2.l0, if_neg (by omega)]) ?_
  exact Ev.now _
theorem eqIntA2S_refl (l : List S52) (hl : l.length ≤ 4611686018427387903) : Ev (fun k => laws_eqIntA2S.f k l l) true := by
  refine Ev.congr (fun k => by rw [laws_eqIntA2S.f, if_pos rfl]) ?_
  exact Ev.iter l.length (fun k i => laws_eqIntA2S.l0 k l l (i : Int)) (fun _ => true) (by
    intro i hi h
    refine Ev.step (fun k => by rw [laws_eqIntA2S.l0, if_pos (by omega), if_pos (by omega), if_pos (by omega)]) ?_
    refine Ev.bind (eqIntA2_refl _ _) ?_
    refine Ev.congr (fun k => by rw [if_pos rfl, wi (by omega)]) h) (by
    refine Ev.step (fun k => by rw [laws_eqIntA2S.l0, if_neg (by omega)]) ?_
    exact Ev.now _) 0 (by omega)
theorem eqSpace_refl (l0 : List (List Int)) (l1 : List S52) (h0 : l0.length ≤ 4611686018427387903) (hr : ∀ x ∈ l0, x.length ≤ 4611686018427387903) (h1 : l1.length ≤ 4611686018427387903) : Ev (fun k => laws_eqSpace.f k l0 l1 l0 l1) true := by
  refine Ev.bind (eqIntSS_refl l0 h0 hr) ?_
  refine Ev.congr (fun k => by rw [if_pos rfl]) ?_
  refine Ev.bind (eqIntA2S_refl l1 h1) ?_
  exact Ev.now _
end Go.Proofs.Ytiimbndjggebdaa.Q
