/- The laws of the printed functions: lists and numbers alone. Conditions: none. -/
import Derived.Test.YtiimbndjggebdaaRows
import Derived.WalkKit
import Derived.ProofKit
import Derived.OpenShut
import Derived.ShutString
import Derived.ChangeOld
import Derived.Below
import Derived.SizedLaws
import Derived.Deep.Slices
import Derived.Lib.SmallJoins
import Derived.Test.YtiimbndjggebdaaC9W
import Derived.Test.YtiimbndjggebdaaC9Q0
import Derived.Test.YtiimbndjggebdaaC9FcmpCompareint
import Derived.Test.YtiimbndjggebdaaC9FimplisWeighed
import Derived.Test.YtiimbndjggebdaaC9FlawseqIntA2
import Derived.Test.YtiimbndjggebdaaC9FlawseqIntA2S
import Derived.Test.YtiimbndjggebdaaC9FlawseqIntSS
import Derived.Test.YtiimbndjggebdaaC9FlawstoIntA2
import Derived.Test.YtiimbndjggebdaaC9FlawstoIntS
import Derived.Test.YtiimbndjggebdaaC9FlawsmarkIntA2S
import Derived.Test.YtiimbndjggebdaaC9Fspecl11Heights
import Derived.Test.YtiimbndjggebdaaC9Fspecl2State
import Derived.Test.YtiimbndjggebdaaC9FcmpOrint
import Derived.Test.YtiimbndjggebdaaC9Fimplbetween
import Derived.Test.YtiimbndjggebdaaC9FimplcomparePairs
import Derived.Test.YtiimbndjggebdaaC9FimplisPairs
import Derived.Test.YtiimbndjggebdaaC9Fspecl2Edge
import Derived.Test.YtiimbndjggebdaaC9Fspecl2Pairs
import Derived.Test.YtiimbndjggebdaaC9Fspecl2Space
import Derived.Test.YtiimbndjggebdaaC9FimplSpaceroads
import Derived.Test.YtiimbndjggebdaaC9Fspecl2Lists
import Derived.Test.YtiimbndjggebdaaC9Fspecl2Spread
import Derived.Test.YtiimbndjggebdaaC9Fimplspread
import Derived.Test.YtiimbndjggebdaaC9Repeat
import Derived.Test.YtiimbndjggebdaaC9Fimplparts
import Derived.Test.YtiimbndjggebdaaC9Fspecl2Parts
import Derived.Test.YtiimbndjggebdaaC9FimplInducedSpace
import Derived.Test.YtiimbndjggebdaaC9FslicesBinarySearchintint
import Derived.Test.YtiimbndjggebdaaC9FslicesisNaNint
import Derived.Test.YtiimbndjggebdaaC9Fspecl1Own
import Derived.Test.YtiimbndjggebdaaC9Fspecl2Induced
import Derived.Test.YtiimbndjggebdaaC9FimplSpacefirstWay
import Derived.Test.YtiimbndjggebdaaC9Fspecl2Walk
import Derived.Test.YtiimbndjggebdaaC9FimplMergeHeights
import Derived.Test.YtiimbndjggebdaaC9Fimplbelow
import Derived.Test.YtiimbndjggebdaaC9FspecMergeHeights
import Derived.Test.YtiimbndjggebdaaC9Fspecl11Under
import Derived.Lib.SlicesCompact
import Derived.Test.YtiimbndjggebdaaC9FimplSpacelowWay
import Derived.Test.YtiimbndjggebdaaC9Fspecl11Low
import Derived.Test.YtiimbndjggebdaaC9FimplLowWay
import Derived.Test.YtiimbndjggebdaaC9FimplSpaceisPlace
import Derived.Test.YtiimbndjggebdaaC9Fspecl11Ends
import Derived.Test.YtiimbndjggebdaaC9Fspecl11Peak
import Derived.Test.YtiimbndjggebdaaC9Iter
import Derived.Test.YtiimbndjggebdaaC9FimplIsWay
import Derived.Test.YtiimbndjggebdaaC9FimplLeastPeak
import Derived.Test.YtiimbndjggebdaaC9FimplSpaceisStep
import Derived.Test.YtiimbndjggebdaaC9FslicesBinarySearchFunc2int2int2int
import Derived.Test.YtiimbndjggebdaaC9FspecLeastPeak
import Derived.Test.YtiimbndjggebdaaC9FlawsFnExactLeastPeak
namespace Go.Proofs.Ytiimbndjggebdaa.Q
open Go.RowKit Go.Proofs.YtiimbndjggebdaaW.PrintWords Go.Proofs.YtiimbndjggebdaaW.PrintLast Go.Proofs.YtiimbndjggebdaaW.PrintMore
open Go.ChangeShapes Go.WideShapes Go.ChangeAt Go.Deep
set_option linter.unusedVariables false
set_option linter.unusedSimpArgs false
variable {H : Type} {enc : TypeId × Value → H} {P : Program} {w : World} {base : Nat} {spare : Nat → Bool} {held : Bool}
theorem rows_open {α : Type} [Inhabited α] (d : Kd α) {t e : TypeId} (ht : P.underlying t = some (.slice e)) (hc : P.cellsOf e = d.sz)
    (elem : ∀ n cs y, DataW.trod enc P w base spare held n e cs = some y → ∃ x, d.K w x cs) {fuel : Nat} {cs : List Value} {y : DataW H × List MemPlace} (h : DataW.trod enc P w base spare held fuel t cs = some y) :
    ∃ A c xs, cs = [.slice A xs.length c] ∧ xs.length ≤ c ∧ d.C w A xs.length xs := by
  rcases open_slice ht h with ⟨rfl, _⟩ | ⟨a, len, cap, m, n, D, Pl, rfl, hb, hl, hm, hmm, _, hx⟩
  · exact ⟨none, 0, [], rfl, Nat.le_refl _, rfl, by simp, fun hn => by simp at hn⟩
  · have hlm : len ≤ m := by rw [hmm]; split <;> omega
    obtain ⟨f, hf⟩ := choose_lt (α := α) (n := len) (p := fun i x => ∃ cs', w.cells? base (a.add (i * P.cellsOf e)) (P.cellsOf e) = some cs' ∧ d.K w x cs') (fun i hi => by
      obtain ⟨cs', h1, h2⟩ := hx i (by omega)
      obtain ⟨x, hk⟩ := elem _ _ _ h2
      exact ⟨x, cs', h1, hk⟩)
    have hlen : ((List.range len).map f).length = len := by simp
    refine ⟨some a, cap, (List.range len).map f, by rw [hlen], by rw [hlen]; exact hl, ?_⟩
    rw [hlen]
    refine ⟨hlen, by unfold maxLen at hm; omega, fun _ => ⟨a, rfl, ?_⟩⟩
    intro j p hp
    have hj : j < len := by
      have := (List.getElem?_eq_some_iff.1 hp).1
      simpa using this
    obtain ⟨cs', h1, hk⟩ := hf j hj
    have e1 : p = f j := by
      rw [List.getElem?_map, List.getElem?_range hj] at hp
      exact (Option.some.inj hp).symm
    subst e1
    obtain ⟨_, h3, h4⟩ := World.cells?_some h1
    refine ⟨cs', h3.trans hc, hk, fun i u hu => ?_⟩
    have hi : i < P.cellsOf e := by rw [← h3]; exact (List.getElem?_eq_some_iff.1 hu).1
    have := h4 i hi
    rw [hu, hc, show (a.add (j * d.sz)).add i = a.add (j * d.sz + i) from Go.Deep.add_add _ _ _] at this
    exact this
theorem trod_array2 {t e : TypeId} {fuel : Nat} {cs : List Value} {x : DataW H × List MemPlace} (ht : P.underlying t = some (.array 2 e)) (hct : P.cellsOf t = 2) (hce : P.cellsOf e = 1)
    (h : DataW.trod enc P w base spare held fuel t cs = some x) :
    ∃ c0 c1 y0 y1 n, cs = [c0, c1] ∧ DataW.trod enc P w base spare held n e [c0] = some y0 ∧ DataW.trod enc P w base spare held n e [c1] = some y1 := by
  cases fuel with
  | zero => simp [DataW.trod] at h
  | succ n =>
    unfold DataW.trod at h
    rw [ht] at h
    have r2 : List.range 2 = [0, 1] := rfl
    simp only [r2, hce] at h
    split at h
    · rename_i hl
      have hl2 : cs.length = 2 := by simpa [hct] using hl
      match cs, hl2 with
      | [c0, c1], _ =>
        simp at h
        cases h0 : DataW.trod enc P w base spare held n e [c0] with
        | none => simp [h0] at h
        | some y0 =>
          cases h1 : DataW.trod enc P w base spare held n e [c1] with
          | none => simp [h0, h1] at h
          | some y1 => exact ⟨c0, c1, y0, y1, n, rfl, h0, h1⟩
    · cases h
theorem cells3 : Try.prog.cellsOf 3 = 1 := by kernel_rfl
theorem cells26 : Try.prog.cellsOf 26 = 1 := by kernel_rfl
theorem cells52 : Try.prog.cellsOf 52 = 2 := by kernel_rfl
theorem cells25 : Try.prog.cellsOf 25 = 2 := by kernel_rfl
instance : Inhabited S52 := ⟨z52⟩
theorem elem_int : ∀ n cs (y : DataW H × List MemPlace), DataW.trod enc Try.prog w base spare held n 3 cs = some y → ∃ x, (Kd.int .i64).K w x cs := by
  intro n cs y h
  obtain ⟨a, e0, rfl, wa⟩ := DataW.trod_int Try.underlying3 h
  exact ⟨a, e0⟩
theorem elem_row : ∀ n cs (y : DataW H × List MemPlace), DataW.trod enc Try.prog w base spare held n 26 cs = some y → ∃ x, (Kd.slice 3 (Kd.int .i64)).K w x cs := by
  intro n cs y h
  obtain ⟨A, c, xs, h1, h2, h3⟩ := rows_open (Kd.int .i64) Try.underlying26 cells3 elem_int h
  exact ⟨xs, A, c, h1, h2, h3⟩
theorem elem_pair : ∀ n cs (y : DataW H × List MemPlace), DataW.trod enc Try.prog w base spare held n 52 cs = some y → ∃ x, k52.K w x cs := by
  intro n cs y h
  obtain ⟨c0, c1, y0, y1, m, rfl, h0, h1⟩ := trod_array2 Try.underlying52 cells52 cells3 h
  obtain ⟨a, e0, rfl, _⟩ := DataW.trod_int Try.underlying3 h0
  obtain ⟨b, e1, rfl, _⟩ := DataW.trod_int Try.underlying3 h1
  simp at e0 e1
  subst e0 e1
  exact ⟨⟨a, b⟩, k52_mk _ ⟨a, b⟩⟩
theorem open_I {fuel : Nat} {cs : List Value} {y : DataW H × List MemPlace} (h : DataW.trod enc Try.prog w base spare held fuel 26 cs = some y) : ∃ A c xs, cs = [.slice A xs.length c] ∧ xs.length ≤ c ∧ (Kd.int .i64).C w A xs.length xs := rows_open (Kd.int .i64) Try.underlying26 cells3 elem_int h
theorem open_II {fuel : Nat} {cs : List Value} {y : DataW H × List MemPlace} (h : DataW.trod enc Try.prog w base spare held fuel 22 cs = some y) : ∃ A c xs, cs = [.slice A xs.length c] ∧ xs.length ≤ c ∧ (Kd.slice 3 (Kd.int .i64)).C w A xs.length xs := rows_open (Kd.slice 3 (Kd.int .i64)) Try.underlying22 cells26 elem_row h
theorem open_P {fuel : Nat} {cs : List Value} {y : DataW H × List MemPlace} (h : DataW.trod enc Try.prog w base spare held fuel 23 cs = some y) : ∃ A c xs, cs = [.slice A xs.length c] ∧ xs.length ≤ c ∧ k52.C w A xs.length xs := rows_open k52 Try.underlying23 cells52 elem_pair h
theorem C_rows_max {α : Type} {d : Kd α} {e : Nat} {A : Option Addr} {n : Nat} {xs : List (List α)} (h : (Kd.slice e d).C w A n xs) : ∀ x ∈ xs, x.length ≤ 9223372036854775807 := by
  intro x hx
  obtain ⟨j, hj, rfl⟩ := List.getElem_of_mem hx
  have hn : 0 < n := by have := h.1; omega
  obtain ⟨ad, _, hc⟩ := h.2.2 hn
  obtain ⟨c, _, ⟨A2, c2, _, _, hC⟩, _⟩ := hc j _ (List.getElem?_eq_getElem hj)
  exact hC.2.1
end Go.Proofs.Ytiimbndjggebdaa.Q
namespace Go.Proofs.Ytiimbndjggebdaa.Q
open Go.RowKit Go.Proofs.YtiimbndjggebdaaW.PrintWords Go.Proofs.YtiimbndjggebdaaW.PrintLast Go.Proofs.YtiimbndjggebdaaW.PrintMore
set_option linter.unusedVariables false
set_option linter.unusedSimpArgs false
theorem wr {x : Int} (h0 : -9223372036854775808 ≤ x) (h1 : x ≤ 9223372036854775807) : wrap64 x = x := by unfold wrap64; omega
theorem wi {i : Nat} (h : i < 4611686018427387904) : wrap64 ((i : Int) + 1) = ((i + 1 : Nat) : Int) := by unfold wrap64; omega
theorem rd_at {xs : List Int} {i : Nat} (h : i < xs.length) : rd xs (i : Int) = xs[i] := by simp [rd, List.getD, h]
theorem rd_L1_at {xs : List (List Int)} {i : Nat} (h : i < xs.length) : rd_L1 xs (i : Int) = xs[i] := by simp [rd_L1, List.getD, h]
theorem rd_T52_at {xs : List S52} {i : Nat} (h : i < xs.length) : rd_T52 xs (i : Int) = xs[i] := by simp [rd_T52, List.getD, h]
theorem Ev.iter {ρ : Type} (n : Nat) (G : Nat → Nat → Option ρ) (r : Nat → ρ) (hs : ∀ i, i < n → Ev (fun k => G k (i + 1)) (r (i + 1)) → Ev (fun k => G k i) (r i)) (he : Ev (fun k => G k n) (r n)) : ∀ i, i ≤ n → Ev (fun k => G k i) (r i) := by
  intro i hi
  obtain ⟨d, hd⟩ : ∃ d, n - i = d := ⟨_, rfl⟩
  induction d generalizing i with
  | zero => obtain rfl : i = n := by omega
            exact he
  | succ d ih => exact hs i (by omega) (ih (i + 1) (by omega) (by omega))
theorem fill_step {α : Type} (xs : List α) (z : α) (i : Nat) (h : i < xs.length) : (xs.take i ++ List.replicate (xs.length - i) z).set i xs[i] = xs.take (i + 1) ++ List.replicate (xs.length - (i + 1)) z := by
  rw [List.set_append_right _ _ (by simp; omega)]
  have : i - (xs.take i).length = 0 := by simp; omega
  rw [this, show xs.length - i = (xs.length - (i + 1)) + 1 by omega, List.replicate_succ, List.set_cons_zero, List.take_succ_eq_append_getElem h, List.append_assoc]
  rfl
theorem toIntS_id (l : List Int) (hl : l.length ≤ 1048576) : Ev (fun k => laws_toIntS.f k l) l := by
  have hfin := Ev.iter l.length (fun k i => laws_toIntS.l0 k l (i : Int) (l.take i ++ List.replicate (l.length - i) 0)) (fun _ => l) (by
    intro i hi h
    refine Ev.step (fun k => by rw [laws_toIntS.l0, if_pos (by omega), if_pos (by omega), if_pos (by simp; omega), wi (by omega), Int.toNat_natCast, rd_at hi, fill_step l 0 i hi]) h) (by
    refine Ev.step (fun k => by rw [laws_toIntS.l0, if_neg (by omega)]) ?_
    simpa using Ev.now l) 0 (by omega)
  refine Ev.congr (fun k => by rw [laws_toIntS.f, if_pos (by omega), if_pos (by omega), Int.toNat_natCast]) ?_
  simpa using hfin
theorem toIntSS_id (l : List (List Int)) (hl : l.length ≤ 1048576) (hr : ∀ x ∈ l, x.length ≤ 1048576) : Ev (fun k => laws_toIntSS.f k l) l := by
  have hfin := Ev.iter l.length (fun k i => laws_toIntSS.l0 k l (i : Int) (l.take i ++ List.replicate (l.length - i) [])) (fun _ => l) (by
    intro i hi h
    refine Ev.step (fun k => by rw [laws_toIntSS.l0, if_pos (by omega), if_pos (by omega), rd_L1_at hi]) ?_
    refine Ev.bind (toIntS_id _ (hr _ (List.getElem_mem hi))) ?_
    refine Ev.congr (fun k => by rw [if_pos (by simp; omega), wi (by omega), Int.toNat_natCast, fill_step l [] i hi]) h) (by
    refine Ev.step (fun k => by rw [laws_toIntSS.l0, if_neg (by omega)]) ?_
    simpa using Ev.now l) 0 (by omega)
  refine Ev.congr (fun k => by rw [laws_toIntSS.f, if_pos (by omega), if_pos (by omega), Int.toNat_natCast]) ?_
  simpa using hfin
theorem toIntA2_id (a b : Int) : Ev (fun k => laws_toIntA2.f k a b) (a, b) := by
  refine Ev.step (fun k => by rw [laws_toIntA2.f, laws_toIntA2.l0, if_pos (by omega), if_pos rfl, w64_1]) ?_
  refine Ev.step (fun k => by rw [laws_toIntA2.l0, if_pos (by omega), if_neg (by omega), if_pos rfl, w64_2]) ?_
  refine Ev.step (fun k => by rw [laws_toIntA2.l0, if_neg (by omega)]) ?_
  exact Ev.now _
theorem toIntA2S_id (l : List S52) (hl : l.length ≤ 1048576) : Ev (fun k => laws_toIntA2S.f k l) l := by
  have hfin := Ev.iter l.length (fun k i => laws_toIntA2S.l0 k l (i : Int) (l.take i ++ List.replicate (l.length - i) z52)) (fun _ => l) (by
    intro i hi h
    refine Ev.step (fun k => by rw [laws_toIntA2S.l0, if_pos (by omega), if_pos (by omega), rd_T52_at hi]) ?_
    refine Ev.bind (toIntA2_id _ _) ?_
    refine Ev.congr (fun k => by rw [if_pos (by simp; omega), wi (by omega), Int.toNat_natCast, fill_step l z52 i hi]) h) (by
    refine Ev.step (fun k => by rw [laws_toIntA2S.l0, if_neg (by omega)]) ?_
    simpa using Ev.now l) 0 (by omega)
  refine Ev.congr (fun k => by rw [laws_toIntA2S.f, if_pos (by omega), if_pos (by omega), Int.toNat_natCast]) ?_
  simpa using hfin
theorem toSpace_id (l0 : List (List Int)) (l1 : List S52) (h0 : l0.length ≤ 1048576) (hr : ∀ x ∈ l0, x.length ≤ 1048576) (h1 : l1.length ≤ 1048576) : Ev (fun k => laws_toSpace.f k l0 l1) (l0, l1) := by
  refine Ev.bind (toIntSS_id l0 h0 hr) ?_
  refine Ev.bind (toIntA2S_id l1 h1) ?_
  exact Ev.now _
theorem eqIntS_refl (l : List Int) (hl : l.length ≤ 4611686018427387903) : Ev (fun k => laws_eqIntS.f k l l) true := by
  refine Ev.congr (fun k => by rw [laws_eqIntS.f, if_pos rfl]) ?_
  exact Ev.iter l.length (fun k i => laws_eqIntS.l0 k l l (i : Int)) (fun _ => true) (by
    intro i hi h
    refine Ev.step (fun k => by rw [laws_eqIntS.l0, if_pos (by omega), if_pos (by omega), if_pos (by omega), if_pos rfl, wi (by omega)]) h) (by
    refine Ev.step (fun k => by rw [laws_eqIntS.l0, if_neg (by omega)]) ?_
    exact Ev.now _) 0 (by omega)
theorem eqIntSS_refl (l : List (List Int)) (hl : l.length ≤ 4611686018427387903) (hr : ∀ x ∈ l, x.length ≤ 4611686018427387903) : Ev (fun k => laws_eqIntSS.f k l l) true := by
  refine Ev.congr (fun k => by rw [laws_eqIntSS.f, if_pos rfl]) ?_
  exact Ev.iter l.length (fun k i => laws_eqIntSS.l0 k l l (i : Int)) (fun _ => true) (by
    intro i hi h
    refine Ev.step (fun k => by rw [laws_eqIntSS.l0, if_pos (by omega), if_pos (by omega), if_pos (by omega), rd_L1_at hi]) ?_
    refine Ev.bind (eqIntS_refl _ (hr _ (List.getElem_mem hi))) ?_
    refine Ev.congr (fun k => by rw [if_pos rfl, wi (by omega)]) h) (by
    refine Ev.step (fun k => by rw [laws_eqIntSS.l0, if_neg (by omega)]) ?_
    exact Ev.now _) 0 (by omega)
theorem eqIntA2_refl (a b : Int) : Ev (fun k => laws_eqIntA2.f k a b a b) true := by
  refine Ev.step (fun k => by rw [laws_eqIntA2.f, laws_eqIntA2.l0, if_pos (by omega), if_pos rfl, if_pos rfl, w64_1]) ?_
  refine Ev.step (fun k => by rw [laws_eqIntA2.l0, if_pos (by omega), if_neg (by omega), if_pos rfl, if_pos rfl, w64_2]) ?_
  refine Ev.step (fun k => by rw [laws_eqIntA2.l0, if_neg (by omega)]) ?_
  exact Ev.now _
theorem eqIntA2S_refl (l : List S52) (hl : l.length ≤ 4611686018427387903) : Ev (fun k => laws_eqIntA2S.f k l l) true := by
  refine Ev.congr (fun k => by rw [laws_eqIntA2S.f, if_pos rfl]) ?_
  exact Ev.iter l.length (fun k i => laws_eqIntA2S.l0 k l l (i : Int)) (fun _ => true) (by
    intro i hi h
    refine Ev.step (fun k => by rw [laws_eqIntA2S.l0, if_pos (by omega), if_pos (by omega), if_pos (by omega)]) ?_
    refine Ev.bind (eqIntA2_refl _ _) ?_
    refine Ev.congr (fun k => by rw [if_pos rfl, wi (by omega)]) h) (by
    refine Ev.step (fun k => by rw [laws_eqIntA2S.l0, if_neg (by omega)]) ?_
    exact Ev.now _) 0 (by omega)
theorem eqSpace_refl (l0 : List (List Int)) (l1 : List S52) (h0 : l0.length ≤ 4611686018427387903) (hr : ∀ x ∈ l0, x.length ≤ 4611686018427387903) (h1 : l1.length ≤ 4611686018427387903) : Ev (fun k => laws_eqSpace.f k l0 l1 l0 l1) true := by
  refine Ev.bind (eqIntSS_refl l0 h0 hr) ?_
  refine Ev.congr (fun k => by rw [if_pos rfl]) ?_
  refine Ev.bind (eqIntA2S_refl l1 h1) ?_
  exact Ev.now _
end Go.Proofs.Ytiimbndjggebdaa.Q
namespace Go.Proofs.Ytiimbndjggebdaa.Q
open Go.RowKit Go.Proofs.YtiimbndjggebdaaW.PrintWords Go.Proofs.YtiimbndjggebdaaW.PrintLast Go.Proofs.YtiimbndjggebdaaW.PrintMore
set_option linter.unusedVariables false
set_option linter.unusedSimpArgs false
theorem write_step {α : Type} (xs ys : List α) (i : Nat) (h : i < xs.length) (hl : ys.length = xs.length) : (ys.take i ++ xs.drop i).set i (ys[i]'(by omega)) = ys.take (i + 1) ++ xs.drop (i + 1) := by
  rw [List.set_append_right _ _ (by simp; omega)]
  have : i - (ys.take i).length = 0 := by simp; omega
  rw [this, List.drop_eq_getElem_cons h, List.set_cons_zero, List.take_succ_eq_append_getElem (by omega), List.append_assoc]
  rfl
def total (l : List (List Int)) : Nat := (l.map List.length).sum
theorem total_take (l : List (List Int)) (i : Nat) (h : i < l.length) : total (l.take (i + 1)) = total (l.take i) + l[i].length := by
  unfold total
  rw [List.take_succ_eq_append_getElem h, List.map_append, List.sum_append]
  simp
theorem total_le (l : List (List Int)) (i : Nat) : total (l.take i) ≤ total l := by
  have := List.take_append_drop i l
  unfold total
  calc ((l.take i).map List.length).sum ≤ ((l.take i).map List.length).sum + ((l.drop i).map List.length).sum := by omega
    _ = (l.map List.length).sum := by rw [← List.sum_append, ← List.map_append, this]
theorem total_mem (l : List (List Int)) : ∀ x ∈ l, x.length ≤ total l := by
  induction l with
  | nil => intro x hx; cases hx
  | cons y ys ih =>
    intro x hx
    simp only [total, List.map_cons, List.sum_cons] at ih ⊢
    rcases List.mem_cons.1 hx with rfl | h
    · omega
    · have := ih x h; omega
theorem szIntSS_at (l : List (List Int)) (a : Int) (h0 : 0 ≤ a) (ha : a ≤ 4611686018427387903) (hl : l.length ≤ 9223372036854775807) (hr : ∀ x ∈ l, x.length ≤ 9223372036854775807) : Ev (fun k => laws_szIntSS.f k l a) (if 0 ≤ a - l.length - total l then a - l.length - total l else -1) := by
  by_cases hc : a - (l.length : Int) < 0
  · refine Ev.congr (fun k => by rw [laws_szIntSS.f, wr (by omega) (by omega), if_pos hc]) ?_
    rw [if_neg (by omega)]
    exact Ev.now _
  · refine Ev.congr (fun k => by rw [laws_szIntSS.f, wr (by omega) (by omega), if_neg hc]) ?_
    have hfin : ∀ d i, l.length - i = d → i ≤ l.length → 0 ≤ a - l.length - total (l.take i) → Ev (fun k => laws_szIntSS.l0 k l (a - l.length - total (l.take i)) (i : Int)) (if 0 ≤ a - l.length - total l then a - l.length - total l else -1) := by
      intro d
      induction d with
      | zero =>
        intro i hd hi hp
        obtain rfl : i = l.length := by omega
        rw [List.take_length] at hp ⊢
        refine Ev.step (fun k => by rw [laws_szIntSS.l0, if_neg (by omega)]) ?_
        rw [if_pos hp]
        exact Ev.now _
      | succ d ih =>
        intro i hd hi hp
        have hlt : i < l.length := by omega
        have ht' := total_take l i hlt
        have hle := total_le l (i + 1)
        have hri := hr _ (List.getElem_mem hlt)
        refine Ev.step (fun k => by rw [laws_szIntSS.l0, if_pos (by omega), if_pos (by omega), rd_L1_at hlt, laws_szIntS.f, wr (by omega) (by omega)]) ?_
        by_cases h2 : a - (l.length : Int) - (total (l.take i) : Int) - (l[i].length : Int) < 0
        · refine Ev.congr (fun k => by rw [if_pos h2, Option.bind_some, if_pos (by omega)]) ?_
          rw [if_neg (by omega)]
          exact Ev.now _
        · refine Ev.congr (fun k => by rw [if_neg h2, Option.bind_some, if_neg h2, wi (by omega)]) ?_
          rw [show a - (l.length : Int) - (total (l.take i) : Int) - (l[i].length : Int) = a - (l.length : Int) - (total (l.take (i + 1)) : Int) by omega]
          exact ih (i + 1) (by omega) (by omega) (by omega)
    have := hfin l.length 0 (by omega) (by omega) (by simp [total]; omega)
    simpa [total] using this
theorem szSpace_at (l0 : List (List Int)) (l1 : List S52) (hl : l0.length ≤ 9223372036854775807) (hr : ∀ x ∈ l0, x.length ≤ 9223372036854775807) (h1 : l1.length ≤ 9223372036854775807) : Ev (fun k => laws_szSpace.f k l0 l1 1048576) (if (l0.length : Int) + total l0 + l1.length ≤ 1048576 then 1048576 - (l0.length : Int) - total l0 - l1.length else -1) := by
  refine Ev.bind (szIntSS_at l0 1048576 (by omega) (by omega) hl hr) ?_
  by_cases hc : (0 : Int) ≤ 1048576 - l0.length - total l0
  · rw [if_pos hc]
    refine Ev.congr (fun k => by rw [if_neg (by omega), laws_szIntA2S.f, wr (by omega) (by omega)]) ?_
    by_cases h2 : 1048576 - (l0.length : Int) - total l0 - l1.length < 0
    · refine Ev.congr (fun k => by rw [if_pos h2, Option.bind_some, if_pos (by omega)]) ?_
      rw [if_neg (by omega)]
      exact Ev.now _
    · refine Ev.congr (fun k => by rw [if_neg h2, Option.bind_some, if_neg h2]) ?_
      rw [if_pos (by omega)]
      exact Ev.now _
  · rw [if_neg hc]
    refine Ev.congr (fun k => by rw [if_pos (by omega)]) ?_
    rw [if_neg (by omega)]
    exact Ev.now _
end Go.Proofs.Ytiimbndjggebdaa.Q
namespace Go.Proofs.Ytiimbndjggebdaa.Q
open Go.RowKit Go.Proofs.YtiimbndjggebdaaW.PrintWords Go.Proofs.YtiimbndjggebdaaW.PrintLast Go.Proofs.YtiimbndjggebdaaW.PrintMore
set_option linter.unusedVariables false
set_option linter.unusedSimpArgs false
def stateOK (x : List Int) : Bool := x.all (fun v => decide (-99 ≤ v) && decide (v ≤ 99)) && decide (x.length ≤ 24)
theorem all_drop {α : Type} (p : α → Bool) (l : List α) (i : Nat) (h : i < l.length) : (l.drop i).all p = (p l[i] && (l.drop (i + 1)).all p) := by
  rw [List.drop_eq_getElem_cons h, List.all_cons]
theorem all_range_end (p : Nat → Bool) (n : Nat) : ((List.range n).drop n).all p = true := by
  rw [List.drop_of_length_le (by simp)]
  rfl
theorem all_range_drop (p : Nat → Bool) (n i : Nat) (h : i < n) : ((List.range n).drop i).all p = (p i && ((List.range n).drop (i + 1)).all p) := by
  rw [all_drop p _ i (by simpa using h)]
  simp
theorem l2State_at (l : List Int) (hl : l.length ≤ 4611686018427387903) : Ev (fun k => spec_l2State.f k l) (stateOK l) := by
  have hfin := Ev.iter l.length (fun k i => spec_l2State.l0 k l (i : Int)) (fun i => (l.drop i).all (fun v => decide (-99 ≤ v) && decide (v ≤ 99)) && decide (l.length ≤ 24)) (by
    intro i hi h
    refine Ev.step (fun k => by rw [spec_l2State.l0, if_pos (by omega), if_pos (by omega), rd_at hi, spec_l1In.f]) ?_
    rw [all_drop _ _ _ hi]
    by_cases h1 : l[i] ≥ -99
    · refine Ev.congr (fun k => by rw [if_pos h1, Option.bind_some]) ?_
      by_cases h2 : l[i] ≤ 99
      · refine Ev.congr (fun k => by rw [if_pos (decide_eq_true h2), wi (by omega)]) ?_
        simpa [h1, h2] using h
      · refine Ev.congr (fun k => by rw [if_neg (by simpa using h2)]) ?_
        simpa [h2] using Ev.now false
    · refine Ev.congr (fun k => by rw [if_neg h1, Option.bind_some, if_neg (by simp)]) ?_
      simpa [h1] using Ev.now false) (by
    refine Ev.step (fun k => by rw [spec_l2State.l0, if_neg (by omega)]) ?_
    rw [List.drop_length, show decide ((l.length : Int) ≤ 24) = decide (l.length ≤ 24) from decide_eq_decide.2 (by omega)]
    exact Ev.now _) 0 (by omega)
  simpa [spec_l2State.f, stateOK] using hfin
theorem isState_at (l : List Int) : impl_isState.f l = some (stateOK l) := by
  unfold impl_isState.f stateOK
  rw [Bool.and_comm, List.not_any_eq_all_not]
  simp
def cmpl : List Int → List Int → Int
  | [], [] => 0
  | [], _ :: _ => -1
  | _ :: _, [] => 1
  | a :: xs, b :: ys => if a < b then -1 else if a > b then 1 else cmpl xs ys
theorem cmpl_drop (a b : List Int) (i : Nat) (h : i < a.length) (h2 : i < b.length) : cmpl (a.drop i) (b.drop i) = if a[i] < b[i] then -1 else if a[i] > b[i] then 1 else cmpl (a.drop (i + 1)) (b.drop (i + 1)) := by
  rw [List.drop_eq_getElem_cons h, List.drop_eq_getElem_cons h2, cmpl]
theorem cmpl_endA (a b : List Int) (i : Nat) (h : a.length ≤ i) (h2 : i < b.length) : cmpl (a.drop i) (b.drop i) = -1 := by
  rw [List.drop_of_length_le h, List.drop_eq_getElem_cons h2, cmpl]
theorem cmpl_endB (a b : List Int) (i : Nat) (h : i < a.length) (h2 : b.length ≤ i) : cmpl (a.drop i) (b.drop i) = 1 := by
  rw [List.drop_of_length_le h2, List.drop_eq_getElem_cons h, cmpl]
theorem cmpl_end (a b : List Int) (i : Nat) (h : a.length ≤ i) (h2 : b.length ≤ i) : cmpl (a.drop i) (b.drop i) = 0 := by
  rw [List.drop_of_length_le h2, List.drop_of_length_le h, cmpl]
theorem cmpInt_at (a b : Int) : cmp_Compare_int.f a b = some (if a < b then -1 else if a > b then 1 else 0) := by
  simp only [cmp_Compare_int.f, cmp_isNaN_int.f, bne_self_eq_false, Option.bind_some]
  rw [if_neg (by simp), if_neg (by simp)]
  by_cases h : a < b
  · rw [if_pos h, if_pos h]
  · rw [if_neg h, if_neg h]
    by_cases h2 : a > b
    · rw [if_pos h2, if_pos h2]
    · rw [if_neg h2, if_neg h2]
theorem l2Before_at (a b : List Int) (ha : a.length ≤ 4611686018427387903) (hb : b.length ≤ 4611686018427387903) : Ev (fun k => spec_l2Before.f k a b) (decide (cmpl a b < 0)) := by
  have hfin : ∀ d i, a.length - i = d → i ≤ a.length → i ≤ b.length → Ev (fun k => spec_l2Before.l0 k a b (i : Int)) (decide (cmpl (a.drop i) (b.drop i) < 0)) := by
    intro d
    induction d with
    | zero =>
      intro i hd hi hj
      obtain rfl : i = a.length := by omega
      refine Ev.step (fun k => by rw [spec_l2Before.l0, if_neg (by omega)]) ?_
      refine Ev.step (fun k => by rw [spec_l2Before.j1, if_neg (by simp)]) ?_
      by_cases h : a.length < b.length
      · rw [cmpl_endA _ _ _ (Nat.le_refl _) h]
        simpa [h] using Ev.now true
      · rw [cmpl_end _ _ _ (Nat.le_refl _) (by omega)]
        simpa [h] using Ev.now false
    | succ d ih =>
      intro i hd hi hj
      refine Ev.step (fun k => by rw [spec_l2Before.l0, if_pos (by omega)]) ?_
      by_cases h : i < b.length
      · refine Ev.step (fun k => by rw [spec_l2Before.j1, if_pos (decide_eq_true (by omega)), if_pos (by omega), if_pos (by omega), if_pos (by omega), rd_at (by omega : i < a.length), rd_at h]) ?_
        rw [cmpl_drop _ _ _ (by omega) h]
        by_cases e : a[i] = b[i]
        · refine Ev.congr (fun k => by rw [if_pos e, wi (by omega)]) ?_
          rw [if_neg (by omega), if_neg (by omega)]
          exact ih (i + 1) (by omega) (by omega) (by omega)
        · refine Ev.congr (fun k => by rw [if_neg e]) ?_
          by_cases e2 : a[i] < b[i]
          · simpa [e2] using Ev.now true
          · rw [if_neg e2, if_pos (by omega)]
            simpa [e2] using Ev.now false
      · refine Ev.step (fun k => by rw [spec_l2Before.j1, if_neg (by simp; omega)]) ?_
        rw [cmpl_endB _ _ _ (by omega) (by omega)]
        have : ¬ (a.length < b.length) := by omega
        simpa [this] using Ev.now false
  simpa [spec_l2Before.f] using hfin a.length 0 (by omega) (by omega) (by omega)
theorem compare_at (a b : List Int) (ha : a.length ≤ 4611686018427387903) (hb : b.length ≤ 4611686018427387903) : Ev (fun k => slices_Compare_int_int.f k a b) (cmpl a b) := by
  have hfin : ∀ d i, a.length - i = d → i ≤ a.length → i ≤ b.length → Ev (fun k => slices_Compare_int_int.l0 k a b a (a.length : Int) (i : Int)) (cmpl (a.drop i) (b.drop i)) := by
    intro d
    induction d with
    | zero =>
      intro i hd hi hj
      obtain rfl : i = a.length := by omega
      refine Ev.step (fun k => by rw [slices_Compare_int_int.l0, if_neg (by omega)]) ?_
      by_cases h : a.length < b.length
      · rw [cmpl_endA _ _ _ (Nat.le_refl _) h]
        refine Ev.congr (fun k => by rw [if_pos (by omega)]) (Ev.now _)
      · rw [cmpl_end _ _ _ (Nat.le_refl _) (by omega)]
        refine Ev.congr (fun k => by rw [if_neg (by omega)]) (Ev.now _)
    | succ d ih =>
      intro i hd hi hj
      refine Ev.step (fun k => by rw [slices_Compare_int_int.l0, if_pos (by omega), if_pos (by omega), if_pos (by omega)]) ?_
      by_cases h : i < b.length
      · refine Ev.congr (fun k => by rw [if_neg (by omega), if_pos (by omega), rd_at (by omega : i < a.length), rd_at h, cmpInt_at, Option.bind_some]) ?_
        rw [cmpl_drop _ _ _ (by omega) h]
        by_cases e2 : a[i] < b[i]
        · refine Ev.congr (fun k => by rw [if_pos e2, if_neg (by omega)]) ?_
          rw [if_pos e2]
          exact Ev.now _
        · by_cases e3 : a[i] > b[i]
          · refine Ev.congr (fun k => by rw [if_neg e2, if_pos e3, if_neg (by omega)]) ?_
            rw [if_neg e2, if_pos e3]
            exact Ev.now _
          · refine Ev.congr (fun k => by rw [if_neg e2, if_neg e3, if_pos rfl, wi (by omega)]) ?_
            rw [if_neg e2, if_neg e3]
            exact ih (i + 1) (by omega) (by omega) (by omega)
      · refine Ev.congr (fun k => by rw [if_pos (by omega)]) ?_
        rw [cmpl_endB _ _ _ (by omega) (by omega)]
        exact Ev.now _
  simpa [slices_Compare_int_int.f] using hfin a.length 0 (by omega) (by omega) (by omega)
def lex52 (x y : S52) : Bool := decide (x.f0 < y.f0) || (decide (x.f0 = y.f0) && decide (x.f1 < y.f1))
def stepOK (n : Int) (l : List S52) (j : Nat) : Bool := decide (0 ≤ (rd_T52 l j).f0) && decide ((rd_T52 l j).f0 < (rd_T52 l j).f1) && decide ((rd_T52 l j).f1 < n) && (decide (j = 0) || lex52 (rd_T52 l ((j : Int) - 1)) (rd_T52 l j))
theorem edge_at (x y : S52) : spec_l2Edge.f x.f0 x.f1 y.f0 y.f1 = some (lex52 x y) := by
  unfold spec_l2Edge.f lex52
  by_cases h : x.f0 < y.f0
  · simp [h]
  · by_cases h2 : x.f0 = y.f0
    · simp [h2]
    · simp [h, h2]
theorem comparePairs_at (x y : S52) : ∃ c, Ev (fun k => impl_comparePairs.f k x.f0 x.f1 y.f0 y.f1) c ∧ decide (c ≥ 0) = !(lex52 x y) := by
  have hor : ∀ a b : Int, Ev (fun k => cmp_Or_int.f k [a, b]) (if a = 0 then b else a) := by
    intro a b
    by_cases h : a = 0
    · rw [if_pos h]
      by_cases h2 : b = 0
      · refine Ev.step (fun k => by rw [cmp_Or_int.f, cmp_Or_int.l0, if_pos (by simp), if_pos (by omega), if_pos (by simp), if_pos (by simpa [rd] using h), w64_1]) ?_
        refine Ev.step (fun k => by rw [cmp_Or_int.l0, if_pos (by simp), if_pos (by omega), if_pos (by simp), if_pos (by simpa [rd] using h2), w64_2]) ?_
        refine Ev.step (fun k => by rw [cmp_Or_int.l0, if_neg (by simp)]) ?_
        rw [h2]
        exact Ev.now _
      · refine Ev.step (fun k => by rw [cmp_Or_int.f, cmp_Or_int.l0, if_pos (by simp), if_pos (by omega), if_pos (by simp), if_pos (by simpa [rd] using h), w64_1]) ?_
        refine Ev.step (fun k => by rw [cmp_Or_int.l0, if_pos (by simp), if_pos (by omega), if_pos (by simp), if_neg (by simpa [rd] using h2)]) ?_
        simpa [rd] using Ev.now b
    · rw [if_neg h]
      refine Ev.step (fun k => by rw [cmp_Or_int.f, cmp_Or_int.l0, if_pos (by simp), if_pos (by omega), if_pos (by simp), if_neg (by simpa [rd] using h)]) ?_
      simpa [rd] using Ev.now a
  refine ⟨_, Ev.congr (fun k => by rw [impl_comparePairs.f, cmpInt_at, Option.bind_some, cmpInt_at, Option.bind_some]) (Ev.bind (hor _ _) (Ev.now _)), ?_⟩
  unfold lex52
  by_cases h : x.f0 < y.f0
  · simp [h]
  · by_cases h2 : x.f0 > y.f0
    · have h3 : ¬ (x.f0 = y.f0) := by omega
      simp [h, h2, h3]
    · have h3 : x.f0 = y.f0 := by omega
      by_cases h4 : x.f1 < y.f1
      · simp [h3, h4]
      · by_cases h5 : x.f1 > y.f1
        · simp [h3, h4, h5]
        · simp [h3, h4, h5]
theorem l2Pairs_at (l : List S52) (n : Nat) (hl : l.length ≤ 4611686018427387903) (hn : n ≤ 4611686018427387903) : Ev (fun k => spec_l2Pairs.f k l (n : Int)) ((List.range l.length).all (stepOK n l)) := by
  have hfin := Ev.iter l.length (fun k i => spec_l2Pairs.l0 k l (n : Int) (i : Int)) (fun i => ((List.range l.length).drop i).all (stepOK n l)) (by
    intro i hi h
    refine Ev.step (fun k => by rw [spec_l2Pairs.l0, if_pos (by omega), if_pos (by omega), spec_l1In.f, wr (by omega) (by omega), spec_l1In.f]) ?_
    rw [all_range_drop _ _ _ hi]
    by_cases h1 : (rd_T52 l i).f0 ≥ 0
    · refine Ev.congr (fun k => by rw [if_pos h1, Option.bind_some]) ?_
      by_cases h2 : (rd_T52 l i).f0 ≤ (n : Int) - 1
      · refine Ev.congr (fun k => by rw [if_pos (decide_eq_true h2)]) ?_
        by_cases h3 : (rd_T52 l i).f1 ≥ 0
        · refine Ev.congr (fun k => by rw [if_pos h3, Option.bind_some]) ?_
          by_cases h4 : (rd_T52 l i).f1 ≤ (n : Int) - 1
          · refine Ev.congr (fun k => by rw [if_pos (decide_eq_true h4)]) ?_
            by_cases h5 : (rd_T52 l i).f0 ≥ (rd_T52 l i).f1
            · refine Ev.congr (fun k => by rw [if_pos h5]) ?_
              have : stepOK n l i = false := by simp [stepOK, h1]; omega
              rw [this]
              exact Ev.now _
            · refine Ev.congr (fun k => by rw [if_neg h5]) ?_
              by_cases h6 : i = 0
              · refine Ev.congr (fun k => by rw [if_neg (by omega), wi (by omega)]) ?_
                have : stepOK n l i = true := by simp [stepOK, h6] at *; omega
                rw [this]
                exact h
              · refine Ev.congr (fun k => by rw [if_pos (by omega), wr (by omega) (by omega), if_pos (by omega), if_pos (by omega), edge_at, Option.bind_some]) ?_
                have : stepOK n l i = lex52 (rd_T52 l ((i : Int) - 1)) (rd_T52 l i) := by
                  have e1 : (rd_T52 l i).f0 < (rd_T52 l i).f1 := by omega
                  have e2 : (rd_T52 l i).f1 < (n : Int) := by omega
                  simp [stepOK, h1, h6, e1, e2]
                rw [this]
                cases lex52 (rd_T52 l ((i : Int) - 1)) (rd_T52 l i) with
                | true => exact Ev.congr (fun k => by rw [if_pos rfl, wi (by omega)]) h
                | false => exact Ev.congr (fun k => by rw [if_neg (by simp)]) (by rw [Bool.false_and]; exact Ev.now _)
          · refine Ev.congr (fun k => by rw [if_neg (by simpa using h4)]) ?_
            have : stepOK n l i = false := by simp [stepOK]; omega
            rw [this]
            exact Ev.now _
        · refine Ev.congr (fun k => by rw [if_neg h3, Option.bind_some, if_neg (by simp)]) ?_
          have : stepOK n l i = false := by simp [stepOK]; omega
          rw [this]
          exact Ev.now _
      · refine Ev.congr (fun k => by rw [if_neg (by simpa using h2)]) ?_
        have : stepOK n l i = false := by simp [stepOK]; omega
        rw [this]
        exact Ev.now _
    · refine Ev.congr (fun k => by rw [if_neg h1, Option.bind_some, if_neg (by simp)]) ?_
      have : stepOK n l i = false := by simp [stepOK]; omega
      rw [this]
      exact Ev.now _) (by
    refine Ev.step (fun k => by rw [spec_l2Pairs.l0, if_neg (by omega)]) ?_
    rw [all_range_end]
    exact Ev.now _) 0 (by omega)
  simpa [spec_l2Pairs.f] using hfin
theorem isPairs_at (l : List S52) (n : Nat) (hl : l.length ≤ 4611686018427387903) (hn : n ≤ 4611686018427387903) : Ev (fun k => impl_isPairs.f k l (n : Int)) ((List.range l.length).all (stepOK n l)) := by
  have hfin := Ev.iter l.length (fun k i => impl_isPairs.l0 k l (n : Int) l (l.length : Int) (i : Int)) (fun i => ((List.range l.length).drop i).all (stepOK n l)) (by
    intro i hi h
    refine Ev.step (fun k => by rw [impl_isPairs.l0, if_pos (by omega), if_pos (by omega), if_pos (by omega)]) ?_
    rw [all_range_drop _ _ _ hi]
    by_cases h1 : (rd_T52 l i).f0 < 0
    · refine Ev.congr (fun k => by rw [if_pos h1]) ?_
      have : stepOK n l i = false := by simp [stepOK]; omega
      rw [this]
      exact Ev.now _
    · refine Ev.congr (fun k => by rw [if_neg h1]) ?_
      by_cases h2 : (rd_T52 l i).f0 ≥ (rd_T52 l i).f1
      · refine Ev.congr (fun k => by rw [if_pos h2]) ?_
        have : stepOK n l i = false := by simp [stepOK]; omega
        rw [this]
        exact Ev.now _
      · refine Ev.congr (fun k => by rw [if_neg h2]) ?_
        by_cases h3 : (rd_T52 l i).f1 ≥ (n : Int)
        · refine Ev.congr (fun k => by rw [if_pos h3]) ?_
          have : stepOK n l i = false := by simp [stepOK]; omega
          rw [this]
          exact Ev.now _
        · refine Ev.congr (fun k => by rw [if_neg h3]) ?_
          by_cases h6 : i = 0
          · refine Ev.congr (fun k => by rw [if_neg (by omega), wi (by omega)]) ?_
            have : stepOK n l i = true := by simp [stepOK, h6] at *; omega
            rw [this]
            exact h
          · obtain ⟨c, hc, he⟩ := comparePairs_at (rd_T52 l ((i : Int) - 1)) (rd_T52 l i)
            refine Ev.congr (fun k => by rw [if_pos (by omega), wr (by omega) (by omega), if_pos (by omega), if_pos (by omega)]) ?_
            refine Ev.bind hc ?_
            have : stepOK n l i = lex52 (rd_T52 l ((i : Int) - 1)) (rd_T52 l i) := by
              have e0 : (0 : Int) ≤ (rd_T52 l i).f0 := by omega
              have e1 : (rd_T52 l i).f0 < (rd_T52 l i).f1 := by omega
              have e2 : (rd_T52 l i).f1 < (n : Int) := by omega
              simp [stepOK, e0, h6, e1, e2]
            rw [this]
            revert he
            cases lex52 (rd_T52 l ((i : Int) - 1)) (rd_T52 l i) with
            | true => intro he; exact Ev.congr (fun k => by rw [if_neg (by simpa using he), wi (by omega)]) h
            | false => intro he; exact Ev.congr (fun k => by rw [if_pos (by simpa using he)]) (by rw [Bool.false_and]; exact Ev.now _)) (by
    refine Ev.step (fun k => by rw [impl_isPairs.l0, if_neg (by omega)]) ?_
    rw [all_range_end]
    exact Ev.now _) 0 (by omega)
  simpa [impl_isPairs.f] using hfin
def rowOK (st : List (List Int)) (j : Nat) : Bool := stateOK (rd_L1 st j) && (decide (j = 0) || decide (cmpl (rd_L1 st ((j : Int) - 1)) (rd_L1 st j) < 0))
def okSpace (st : List (List Int)) (sp : List S52) : Bool := decide (st.length ≤ 300) && decide (sp.length ≤ 6000) && ((List.range st.length).all (rowOK st) && (List.range sp.length).all (stepOK st.length sp))
theorem rd_L1_len {st : List (List Int)} (hr : ∀ x ∈ st, x.length ≤ 4611686018427387903) (i : Int) : (rd_L1 st i).length ≤ 4611686018427387903 := by
  unfold rd_L1
  rw [List.getD_eq_getElem?_getD]
  cases h : st[i.toNat]? with
  | none => simp
  | some x => exact hr x (List.mem_of_getElem? h)
theorem l2Space_at (st : List (List Int)) (sp : List S52) (hr : ∀ x ∈ st, x.length ≤ 4611686018427387903) : Ev (fun k => spec_l2Space.f k st sp) (okSpace st sp) := by
  by_cases h1 : st.length ≤ 300
  · refine Ev.congr (fun k => by rw [spec_l2Space.f, if_neg (by omega)]) ?_
    by_cases h2 : sp.length ≤ 6000
    · refine Ev.step (fun k => by rw [spec_l2Space.j0, if_neg (by simp; omega)]) ?_
      have hfin := Ev.iter st.length (fun k i => spec_l2Space.l0 k (i : Int) st sp) (fun i => ((List.range st.length).drop i).all (rowOK st) && (List.range sp.length).all (stepOK st.length sp)) (by
        intro i hi h
        refine Ev.step (fun k => by rw [spec_l2Space.l0, if_pos (by omega), if_pos (by omega)]) ?_
        rw [all_range_drop _ _ _ hi]
        refine Ev.bind (l2State_at _ (rd_L1_len hr _)) ?_
        cases hs : stateOK (rd_L1 st i) with
        | false =>
          refine Ev.congr (fun k => by rw [if_neg (by simp)]) ?_
          have : rowOK st i = false := by simp [rowOK, hs]
          rw [this]
          exact Ev.now _
        | true =>
          refine Ev.congr (fun k => by rw [if_pos rfl]) ?_
          by_cases h6 : i = 0
          · refine Ev.congr (fun k => by rw [if_neg (by omega), wi (by omega)]) ?_
            have : rowOK st i = true := by subst h6; simpa [rowOK] using hs
            rw [this]
            exact h
          · refine Ev.congr (fun k => by rw [if_pos (by omega), wr (by omega) (by omega), if_pos (by omega), if_pos (by omega)]) ?_
            refine Ev.bind (l2Before_at _ _ (rd_L1_len hr _) (rd_L1_len hr _)) ?_
            have : rowOK st i = decide (cmpl (rd_L1 st ((i : Int) - 1)) (rd_L1 st i) < 0) := by simp [rowOK, hs, h6]
            rw [this]
            cases decide (cmpl (rd_L1 st ((i : Int) - 1)) (rd_L1 st i) < 0) with
            | true => exact Ev.congr (fun k => by rw [if_pos rfl, wi (by omega)]) h
            | false => exact Ev.congr (fun k => by rw [if_neg (by simp)]) (by rw [Bool.false_and]; exact Ev.now _)) (by
        refine Ev.step (fun k => by rw [spec_l2Space.l0, if_neg (by omega)]) ?_
        refine Ev.bind (l2Pairs_at sp st.length (by omega) (by omega)) ?_
        rw [all_range_end]
        exact Ev.now _) 0 (by omega)
      simpa [okSpace, h1, h2] using hfin
    · refine Ev.step (fun k => by rw [spec_l2Space.j0, if_pos (by simp; omega)]) ?_
      simpa [okSpace, h2] using Ev.now false
  · refine Ev.congr (fun k => by rw [spec_l2Space.f, if_pos (by omega)]) ?_
    refine Ev.step (fun k => by rw [spec_l2Space.j0, if_pos rfl]) ?_
    simpa [okSpace, h1] using Ev.now false
theorem isSpace_at (st : List (List Int)) (sp : List S52) (hr : ∀ x ∈ st, x.length ≤ 4611686018427387903) : Ev (fun k => impl_IsSpace.f k st sp) (okSpace st sp) := by
  by_cases h1 : st.length ≤ 300
  · refine Ev.congr (fun k => by rw [impl_IsSpace.f, if_neg (by omega)]) ?_
    by_cases h2 : sp.length ≤ 6000
    · refine Ev.step (fun k => by rw [impl_IsSpace.j0, if_neg (by simp; omega)]) ?_
      have hfin := Ev.iter st.length (fun k i => impl_IsSpace.l0 k st (st.length : Int) (i : Int) st sp) (fun i => ((List.range st.length).drop i).all (rowOK st) && (List.range sp.length).all (stepOK st.length sp)) (by
        intro i hi h
        refine Ev.step (fun k => by rw [impl_IsSpace.l0, if_pos (by omega), if_pos (by omega), if_pos (by omega), isState_at, Option.bind_some]) ?_
        rw [all_range_drop _ _ _ hi]
        cases hs : stateOK (rd_L1 st i) with
        | false =>
          refine Ev.congr (fun k => by rw [if_neg (by simp)]) ?_
          have : rowOK st i = false := by simp [rowOK, hs]
          rw [this]
          exact Ev.now _
        | true =>
          refine Ev.congr (fun k => by rw [if_pos rfl]) ?_
          by_cases h6 : i = 0
          · refine Ev.congr (fun k => by rw [if_neg (by omega), wi (by omega)]) ?_
            have : rowOK st i = true := by subst h6; simpa [rowOK] using hs
            rw [this]
            exact h
          · refine Ev.congr (fun k => by rw [if_pos (by omega), wr (by omega) (by omega), if_pos (by omega), if_pos (by omega)]) ?_
            refine Ev.bind (compare_at _ _ (rd_L1_len hr _) (rd_L1_len hr _)) ?_
            by_cases hc : cmpl (rd_L1 st ((i : Int) - 1)) (rd_L1 st i) < 0
            · have : rowOK st i = true := by simp [rowOK, hs, h6, hc]
              rw [this]
              exact Ev.congr (fun k => by rw [if_neg (by omega), wi (by omega)]) h
            · have : rowOK st i = false := by simp [rowOK, hs, h6, hc]
              rw [this]
              rw [Bool.false_and, Bool.false_and]
              exact Ev.congr (fun k => by rw [if_pos (by omega)]) (Ev.now _)) (by
        refine Ev.step (fun k => by rw [impl_IsSpace.l0, if_neg (by omega)]) ?_
        refine Ev.bind (isPairs_at sp st.length (by omega) (by omega)) ?_
        rw [all_range_end]
        exact Ev.now _) 0 (by omega)
      simpa [okSpace, h1, h2] using hfin
    · refine Ev.step (fun k => by rw [impl_IsSpace.j0, if_pos (by simp; omega)]) ?_
      simpa [okSpace, h2] using Ev.now false
  · refine Ev.congr (fun k => by rw [impl_IsSpace.f, if_pos (by omega)]) ?_
    refine Ev.step (fun k => by rw [impl_IsSpace.j0, if_pos rfl]) ?_
    simpa [okSpace, h1] using Ev.now false
end Go.Proofs.Ytiimbndjggebdaa.Q
namespace Go.Proofs.Ytiimbndjggebdaa.Q
open Go.RowKit Go.Proofs.YtiimbndjggebdaaW.PrintWords Go.Proofs.YtiimbndjggebdaaW.PrintLast Go.Proofs.YtiimbndjggebdaaW.PrintMore
set_option linter.unusedVariables false
set_option linter.unusedSimpArgs false
structure StepsOK (n : Nat) (sp : List S52) : Prop where
  rng : ∀ s ∈ sp, 0 ≤ s.f0 ∧ s.f0 < s.f1 ∧ s.f1 < (n : Int)
  srt : sp.Pairwise (fun x y => lex52 x y = true)
theorem lex52_iff (x y : S52) : lex52 x y = true ↔ x.f0 < y.f0 ∨ (x.f0 = y.f0 ∧ x.f1 < y.f1) := by simp [lex52]
theorem lex52_trans {x y z : S52} (h : lex52 x y = true) (h2 : lex52 y z = true) : lex52 x z = true := by
  rw [lex52_iff] at *
  omega
theorem pairwise_of_next {α : Type} (R : α → α → Prop) (tr : ∀ x y z, R x y → R y z → R x z) (l : List α) (h : ∀ i (h1 : i + 1 < l.length), R (l[i]'(by omega)) l[i + 1]) : l.Pairwise R := by
  rw [List.pairwise_iff_getElem]
  intro i j hi hj hij
  obtain ⟨d, rfl⟩ : ∃ d, j = i + 1 + d := ⟨j - i - 1, by omega⟩
  clear hij
  induction d with
  | zero => exact h i hj
  | succ d ih => exact tr _ _ _ (ih (by omega)) (h (i + 1 + d) hj)
theorem okSpace_steps {st : List (List Int)} {sp : List S52} (h : okSpace st sp = true) : st.length ≤ 300 ∧ sp.length ≤ 6000 ∧ StepsOK st.length sp := by
  simp only [okSpace, Bool.and_eq_true, decide_eq_true_eq] at h
  obtain ⟨⟨h1, h2⟩, _, h3⟩ := h
  rw [List.all_eq_true] at h3
  have hs : ∀ i (hi : i < sp.length), (0 ≤ sp[i].f0 ∧ sp[i].f0 < sp[i].f1 ∧ sp[i].f1 < (st.length : Int)) ∧ ∀ (h0 : 0 < i), lex52 (sp[i - 1]'(by omega)) sp[i] = true := by
    intro i hi
    have := h3 i (List.mem_range.2 hi)
    simp only [stepOK, Bool.and_eq_true, Bool.or_eq_true, decide_eq_true_eq, rd_T52_at hi] at this
    refine ⟨⟨this.1.1.1, this.1.1.2, this.1.2⟩, fun h0 => ?_⟩
    rcases this.2 with h | h
    · omega
    · rw [show (i : Int) - 1 = ((i - 1 : Nat) : Int) by omega, rd_T52_at (by omega)] at h
      exact h
  refine ⟨h1, h2, ⟨fun s hs' => ?_, ?_⟩⟩
  · obtain ⟨i, hi, rfl⟩ := List.getElem_of_mem hs'
    exact (hs i hi).1
  · refine pairwise_of_next (fun x y => lex52 x y = true) (fun x y z => lex52_trans) _ (fun i hi => ?_)
    have := (hs (i + 1) hi).2 (by omega)
    simpa using this
def befores (sp : List S52) (v : Int) : List Int := (sp.filter (fun s => decide (s.f1 = v))).map S52.f0
def behinds (sp : List S52) (v : Int) : List Int := (sp.filter (fun s => decide (s.f0 = v))).map S52.f1
def adj (sp : List S52) (v : Int) : List Int := befores sp v ++ behinds sp v
def lists (n : Nat) (sp : List S52) : List (List Int) := (List.range n).map (fun v : Nat => adj sp v)
theorem set_tab {α : Type} (n u : Nat) (g : Nat → α) (y : α) : ((List.range n).map g).set u y = (List.range n).map (fun v => if v = u then y else g v) := by
  apply List.ext_getElem (by simp)
  intro i h1 h2
  simp only [List.length_map, List.length_range] at h2
  rw [List.getElem_set]
  by_cases h : u = i
  · subst h; simp
  · rw [if_neg h]; simp [show ¬ (i = u) from fun e => h e.symm]
theorem rd_L1_tab {n : Nat} (g : Nat → List Int) {u : Int} (h0 : 0 ≤ u) (h1 : u < (n : Int)) : rd_L1 ((List.range n).map g) u = g u.toNat := by
  have : u.toNat < n := by omega
  simp [rd_L1, List.getD, this]
theorem take_succ_filter (p : S52 → Bool) (sp : List S52) (i : Nat) (h : i < sp.length) : (sp.take (i + 1)).filter p = (sp.take i).filter p ++ (if p sp[i] then [sp[i]] else []) := by
  rw [List.take_succ_eq_append_getElem h, List.filter_append]
  congr 1
  simp [List.filter_cons]
theorem befores_take (sp : List S52) (i : Nat) (h : i < sp.length) (v : Int) : befores (sp.take (i + 1)) v = befores (sp.take i) v ++ (if sp[i].f1 = v then [sp[i].f0] else []) := by
  unfold befores
  rw [take_succ_filter _ _ _ h, List.map_append]
  congr 1
  by_cases e : sp[i].f1 = v <;> simp [e]
theorem behinds_take (sp : List S52) (i : Nat) (h : i < sp.length) (v : Int) : behinds (sp.take (i + 1)) v = behinds (sp.take i) v ++ (if sp[i].f0 = v then [sp[i].f1] else []) := by
  unfold behinds
  rw [take_succ_filter _ _ _ h, List.map_append]
  congr 1
  by_cases e : sp[i].f0 = v <;> simp [e]
theorem befores_len (sp : List S52) (v : Int) : (befores sp v).length ≤ sp.length := by
  unfold befores; rw [List.length_map]; exact List.length_filter_le _ _
theorem behinds_len (sp : List S52) (v : Int) : (behinds sp v).length ≤ sp.length := by
  unfold behinds; rw [List.length_map]; exact List.length_filter_le _ _
theorem l2Lists_at (st : List (List Int)) (sp : List S52) (hn : st.length ≤ 1048576) (hm : sp.length ≤ 1048576) (ok : ∀ s ∈ sp, 0 ≤ s.f0 ∧ s.f0 < s.f1 ∧ s.f1 < (st.length : Int)) : Ev (fun k => spec_l2Lists.f k st sp) (lists st.length sp) := by
  refine Ev.congr (fun k => by rw [spec_l2Lists.f, if_pos (by omega), if_pos (by omega), Int.toNat_natCast]) ?_
  have second := Ev.iter sp.length (fun k i => spec_l2Lists.l1 k (i : Int) ((List.range st.length).map (fun v : Nat => befores sp v ++ behinds (sp.take i) v)) st sp) (fun _ => lists st.length sp) (by
    intro i hi h
    obtain ⟨a, b, c⟩ := ok _ (List.getElem_mem hi)
    refine Ev.step (fun k => by rw [spec_l2Lists.l1, if_pos (by omega), if_pos (by omega), rd_T52_at hi, if_pos (by omega), if_pos (by simp; omega), rd_L1_tab _ (by omega) (by omega), if_pos (by
      have := befores_len sp ((sp[i].f0.toNat : Nat) : Int)
      have := behinds_len (sp.take i) ((sp[i].f0.toNat : Nat) : Int)
      simp only [List.length_append, List.length_take] at *
      omega), wi (by omega), set_tab]) ?_
    have e : (fun v : Nat => if v = sp[i].f0.toNat then befores sp ((sp[i].f0.toNat : Nat) : Int) ++ behinds (sp.take i) ((sp[i].f0.toNat : Nat) : Int) ++ [sp[i].f1] else befores sp v ++ behinds (sp.take i) v) = fun v : Nat => befores sp v ++ behinds (sp.take (i + 1)) v := by
      funext v
      rw [behinds_take _ _ hi]
      by_cases e : v = sp[i].f0.toNat
      · rw [if_pos e, if_pos (by omega), e, List.append_assoc]
      · rw [if_neg e, if_neg (by omega), List.append_nil]
    rw [e]
    exact h) (by
    refine Ev.step (fun k => by rw [spec_l2Lists.l1, if_neg (by omega)]) ?_
    rw [List.take_length]
    exact Ev.now _) 0 (by omega)
  have first := Ev.iter sp.length (fun k i => spec_l2Lists.l0 k (i : Int) ((List.range st.length).map (fun v : Nat => befores (sp.take i) v)) st sp) (fun _ => lists st.length sp) (by
    intro i hi h
    obtain ⟨a, b, c⟩ := ok _ (List.getElem_mem hi)
    refine Ev.step (fun k => by rw [spec_l2Lists.l0, if_pos (by omega), if_pos (by omega), rd_T52_at hi, if_pos (by omega), if_pos (by simp; omega), rd_L1_tab _ (by omega) (by omega), if_pos (by
      have := befores_len (sp.take i) ((sp[i].f1.toNat : Nat) : Int)
      simp only [List.length_take] at *
      omega), wi (by omega), set_tab]) ?_
    have e : (fun v : Nat => if v = sp[i].f1.toNat then befores (sp.take i) ((sp[i].f1.toNat : Nat) : Int) ++ [sp[i].f0] else befores (sp.take i) v) = fun v : Nat => befores (sp.take (i + 1)) v := by
      funext v
      rw [befores_take _ _ hi]
      by_cases e : v = sp[i].f1.toNat
      · rw [if_pos e, if_pos (by omega), e]
      · rw [if_neg e, if_neg (by omega), List.append_nil]
    rw [e]
    exact h) (by
    refine Ev.step (fun k => by rw [spec_l2Lists.l0, if_neg (by omega)]) ?_
    rw [List.take_length]
    simpa [behinds] using second) 0 (by omega)
  have e : List.replicate st.length ([] : List Int) = (List.range st.length).map (fun v : Nat => befores (sp.take 0) v) := by
    apply List.ext_getElem (by simp)
    intro i h1 h2
    simp [befores]
  rw [e]
  exact first
def mix (sp : List S52) (v : Int) : List Int := sp.flatMap (fun s => if s.f0 = v then [s.f1] else if s.f1 = v then [s.f0] else [])
theorem mix_take (sp : List S52) (i : Nat) (h : i < sp.length) (v : Int) : mix (sp.take (i + 1)) v = mix (sp.take i) v ++ (if sp[i].f0 = v then [sp[i].f1] else if sp[i].f1 = v then [sp[i].f0] else []) := by
  unfold mix
  rw [List.take_succ_eq_append_getElem h, List.flatMap_append]
  simp
theorem mix_len (sp : List S52) (v : Int) : (mix sp v).length ≤ sp.length := by
  induction sp with
  | nil => simp [mix]
  | cons s sp ih =>
    unfold mix at *
    rw [List.flatMap_cons, List.length_append, List.length_cons]
    have : (if s.f0 = v then [s.f1] else if s.f1 = v then [s.f0] else []).length ≤ 1 := by
      by_cases h : s.f0 = v
      · simp [h]
      · by_cases h2 : s.f1 = v <;> simp [h, h2]
    omega
theorem mix_perm (sp : List S52) (ok : ∀ s ∈ sp, s.f0 < s.f1) (v : Int) : (mix sp v).Perm (adj sp v) := by
  induction sp with
  | nil => exact List.Perm.refl _
  | cons s sp ih =>
    have ih := ih (fun x hx => ok x (List.mem_cons_of_mem _ hx))
    have hlt := ok s List.mem_cons_self
    unfold mix adj befores behinds at *
    rw [List.flatMap_cons]
    by_cases h0 : s.f0 = v
    · have h1 : ¬ (s.f1 = v) := by omega
      rw [if_pos h0, List.filter_cons_of_neg (by simpa using h1), List.filter_cons_of_pos (by simpa using h0), List.map_cons]
      exact (List.Perm.cons _ ih).trans List.perm_middle.symm
    · by_cases h1 : s.f1 = v
      · rw [if_neg h0, if_pos h1, List.filter_cons_of_pos (by simpa using h1), List.filter_cons_of_neg (by simpa using h0), List.map_cons]
        exact List.Perm.cons _ ih
      · rw [if_neg h0, if_neg h1, List.filter_cons_of_neg (by simpa using h1), List.filter_cons_of_neg (by simpa using h0)]
        exact ih
theorem adj_sorted {n : Nat} {sp : List S52} (h : StepsOK n sp) (v : Int) : (adj sp v).Pairwise (fun a b => a < b) := by
  unfold adj
  rw [List.pairwise_append]
  refine ⟨?_, ?_, ?_⟩
  · unfold befores
    rw [List.pairwise_map]
    refine (List.Pairwise.filter _ h.srt).imp_of_mem ?_
    intro a b ha hb hl
    have e1 := of_decide_eq_true (List.mem_filter.1 ha).2
    have e2 := of_decide_eq_true (List.mem_filter.1 hb).2
    rw [lex52_iff] at hl
    omega
  · unfold behinds
    rw [List.pairwise_map]
    refine (List.Pairwise.filter _ h.srt).imp_of_mem ?_
    intro a b ha hb hl
    have e1 := of_decide_eq_true (List.mem_filter.1 ha).2
    have e2 := of_decide_eq_true (List.mem_filter.1 hb).2
    rw [lex52_iff] at hl
    omega
  · intro a ha b hb
    obtain ⟨s, hs, rfl⟩ := List.mem_map.1 ha
    obtain ⟨t, ht, rfl⟩ := List.mem_map.1 hb
    have e1 := of_decide_eq_true (List.mem_filter.1 hs).2
    have e2 := of_decide_eq_true (List.mem_filter.1 ht).2
    have := (h.rng s (List.mem_filter.1 hs).1).2.1
    have := (h.rng t (List.mem_filter.1 ht).1).2.1
    omega
theorem sort_of_perm {l l2 : List Int} (hp : l.Perm l2) (hs : l2.Pairwise (fun a b => a ≤ b)) : l.mergeSort (fun x y => decide (x ≤ y)) = l2 := by
  refine List.Perm.eq_of_pairwise (le := fun a b => a ≤ b) (fun a b _ _ h1 h2 => by omega) ?_ hs ((List.mergeSort_perm _ _).trans hp)
  have := List.pairwise_mergeSort (le := fun x y : Int => decide (x ≤ y)) (fun a b c h1 h2 => by simp at *; omega) (fun a b => by simp; omega) l
  exact this.imp (fun h => by simpa using h)
theorem roads_at (st : List (List Int)) (sp : List S52) (hn : st.length ≤ 1048576) (hm : sp.length ≤ 1048576) (ok : StepsOK st.length sp) : Ev (fun k => impl_Space_roads.f k st sp) (lists st.length sp) := by
  refine Ev.congr (fun k => by rw [impl_Space_roads.f, if_pos (by omega), if_pos (by omega), Int.toNat_natCast]) ?_
  have hsort : ∀ v : Int, (mix sp v).mergeSort (fun x y => decide (x ≤ y)) = adj sp v := fun v => sort_of_perm (mix_perm sp (fun s hs => (ok.rng s hs).2.1) v) ((adj_sorted ok v).imp (fun h => by omega))
  have second := Ev.iter st.length (fun k i => impl_Space_roads.l1 k ((List.range st.length).map (fun v : Nat => if v < i then adj sp v else mix sp v)) (st.length : Int) (i : Int)) (fun _ => lists st.length sp) (by
    intro i hi h
    refine Ev.step (fun k => by rw [impl_Space_roads.l1, if_pos (by omega), if_pos (by omega), if_pos (by simp; omega), rd_L1_tab _ (by omega) (by omega), Int.toNat_natCast, if_neg (by omega), slices_Sort_int_int.f, if_pos (by have := mix_len sp (i : Int); omega), Option.bind_some, hsort, set_tab, wi (by omega)]) ?_
    have e : (fun v : Nat => if v = i then adj sp i else if v < i then adj sp v else mix sp v) = fun v : Nat => if v < i + 1 then adj sp v else mix sp v := by
      funext v
      by_cases e : v = i
      · rw [if_pos e, if_pos (by omega), e]
      · rw [if_neg e]
        by_cases e2 : v < i
        · rw [if_pos e2, if_pos (by omega)]
        · rw [if_neg e2, if_neg (by omega)]
    rw [e]
    exact h) (by
    refine Ev.step (fun k => by rw [impl_Space_roads.l1, if_neg (by omega)]) ?_
    have e : (List.range st.length).map (fun v : Nat => if v < st.length then adj sp v else mix sp v) = lists st.length sp := List.map_congr_left (fun v hv => by rw [if_pos (List.mem_range.1 hv)])
    rw [e]
    exact Ev.now _) 0 (by omega)
  have first := Ev.iter sp.length (fun k i => impl_Space_roads.l0 k ((List.range st.length).map (fun v : Nat => mix (sp.take i) v)) sp (sp.length : Int) (i : Int)) (fun _ => lists st.length sp) (by
    intro i hi h
    obtain ⟨a, b, c⟩ := ok.rng _ (List.getElem_mem hi)
    refine Ev.step (fun k => by rw [impl_Space_roads.l0, if_pos (by omega), if_pos (by omega), if_pos (by omega), rd_T52_at hi, if_pos (by omega), if_pos (by simp; omega), rd_L1_tab _ (by omega) (by omega), if_pos (by
      have := mix_len (sp.take i) ((sp[i].f0.toNat : Nat) : Int)
      simp only [List.length_take] at *
      omega), Option.bind_some, set_tab, if_pos (by omega), if_pos (by simp; omega), rd_L1_tab _ (by omega) (by omega), if_neg (show ¬ (sp[i].f1.toNat = sp[i].f0.toNat) by omega), if_pos (by
      have := mix_len (sp.take i) ((sp[i].f1.toNat : Nat) : Int)
      simp only [List.length_take] at *
      omega), wi (by omega), set_tab]) ?_
    have e : (fun v : Nat => if v = sp[i].f1.toNat then mix (sp.take i) ((sp[i].f1.toNat : Nat) : Int) ++ [sp[i].f0] else if v = sp[i].f0.toNat then mix (sp.take i) ((sp[i].f0.toNat : Nat) : Int) ++ [sp[i].f1] else mix (sp.take i) v) = fun v : Nat => mix (sp.take (i + 1)) v := by
      funext v
      rw [mix_take _ _ hi]
      by_cases e : v = sp[i].f1.toNat
      · rw [if_pos e, if_neg (by omega), if_pos (by omega), e]
      · rw [if_neg e]
        by_cases e2 : v = sp[i].f0.toNat
        · rw [if_pos e2, if_pos (by omega), e2]
        · rw [if_neg e2, if_neg (by omega), if_neg (by omega), List.append_nil]
    rw [e]
    exact h) (by
    refine Ev.step (fun k => by rw [impl_Space_roads.l0, if_neg (by omega)]) ?_
    rw [List.take_length]
    simpa using second) 0 (by omega)
  have e : List.replicate st.length ([] : List Int) = (List.range st.length).map (fun v : Nat => mix (sp.take 0) v) := by
    apply List.ext_getElem (by simp)
    intro i h1 h2
    simp [mix]
  rw [e]
  exact first
end Go.Proofs.Ytiimbndjggebdaa.Q
namespace Go.Proofs.Ytiimbndjggebdaa.Q
open Go.RowKit Go.Proofs.YtiimbndjggebdaaW.PrintWords Go.Proofs.YtiimbndjggebdaaW.PrintLast Go.Proofs.YtiimbndjggebdaaW.PrintMore
set_option linter.unusedVariables false
set_option linter.unusedSimpArgs false
inductive Reach (L : List (List Int)) : Int → Int → Prop
  | refl (a : Int) : Reach L a a
  | step {a b : Int} (c : Int) : Reach L a b → c ∈ rd_L1 L b → Reach L a c
theorem Reach.trans {L : List (List Int)} {a b c : Int} (h : Reach L a b) (k : Reach L b c) : Reach L a c := by
  induction k with
  | refl => exact h
  | step c _ hc ih => exact Reach.step c ih hc
structure Nbs (n : Nat) (L : List (List Int)) : Prop where
  len : L.length = n
  few : n ≤ 1048576
  rng : ∀ v : Int, 0 ≤ v → v < n → ∀ c ∈ rd_L1 L v, 0 ≤ c ∧ c < n
  row : ∀ v : Int, (rd_L1 L v).length ≤ 4611686018427387903
theorem Nbs.reach {n : Nat} {L : List (List Int)} (h : Nbs n L) {a b : Int} (h0 : 0 ≤ a) (h1 : a < n) (k : Reach L a b) : 0 ≤ b ∧ b < n := by
  induction k with
  | refl => exact ⟨h0, h1⟩
  | step c _ hc ih => exact h.rng _ ih.1 ih.2 _ hc
theorem nodup_bound : ∀ (n : Nat) (l : List Int), l.Nodup → (∀ c ∈ l, 0 ≤ c ∧ c < (n : Int)) → l.length ≤ n
  | 0, l, _, h => by
    cases l with
    | nil => simp
    | cons a l => have := h a List.mem_cons_self; omega
  | n + 1, l, hn, h => by
    have h1 := nodup_bound n (l.erase (n : Int)) (hn.erase _) (fun c hc => by
      have h2 := h c (List.mem_of_mem_erase hc)
      have h3 := (hn.mem_erase_iff).1 hc
      have h4 := h3.1
      omega)
    rw [List.length_erase] at h1
    split at h1 <;> omega
theorem rd_set {t : List Int} {u v : Int} {y : Int} (h0 : 0 ≤ u) (h1 : u < t.length) (h2 : 0 ≤ v) : rd (t.set u.toNat y) v = if v = u then y else rd t v := by
  unfold rd
  simp only [List.getD_eq_getElem?_getD]
  by_cases h : v = u
  · subst h
    rw [if_pos rfl, List.getElem?_set_self (by omega)]
    rfl
  · rw [if_neg h, List.getElem?_set_ne (by omega)]
theorem rd_append {q x : List Int} {j : Nat} (h : j < q.length) : rd (q ++ x) (j : Int) = rd q (j : Int) := by
  unfold rd
  simp only [List.getD_eq_getElem?_getD, Int.toNat_natCast]
  rw [List.getElem?_append_left h]
theorem rd_mem {q : List Int} {j : Nat} (h : j < q.length) : rd q (j : Int) ∈ q := by
  rw [rd_at h]; exact List.getElem_mem h
structure Bfs (n : Nat) (L : List (List Int)) (i : Int) (q t : List Int) : Prop where
  len : t.length = n
  qr : ∀ c ∈ q, 0 ≤ c ∧ c < (n : Int)
  nod : q.Nodup
  mem : ∀ v : Int, 0 ≤ v → v < n → (0 ≤ rd t v ↔ v ∈ q)
  rch : ∀ v ∈ q, Reach L i v
  start : i ∈ q
  zero : ∀ v : Int, 0 ≤ v → v < n → (rd t v = 0 ↔ v = i)
  par : ∀ v : Int, 0 ≤ v → v < n → 0 < rd t v → ∃ u, 0 ≤ u ∧ u < (n : Int) ∧ v ∈ rd_L1 L u ∧ 0 ≤ rd t u ∧ rd t v = rd t u + 1
  low : ∀ v : Int, 0 ≤ v → v < n → -1 ≤ rd t v ∧ rd t v < (q.length : Int)
structure Far (n : Nat) (L : List (List Int)) (i : Int) (t : List Int) : Prop where
  len : t.length = n
  mem : ∀ v : Int, 0 ≤ v → v < n → (0 ≤ rd t v ↔ Reach L i v)
  zero : ∀ v : Int, 0 ≤ v → v < n → (rd t v = 0 ↔ v = i)
  par : ∀ v : Int, 0 ≤ v → v < n → 0 < rd t v → ∃ u, 0 ≤ u ∧ u < (n : Int) ∧ v ∈ rd_L1 L u ∧ 0 ≤ rd t u ∧ rd t v = rd t u + 1
  low : ∀ v : Int, 0 ≤ v → v < n → -1 ≤ rd t v ∧ rd t v < (n : Int)
theorem Bfs.push {n : Nat} {L : List (List Int)} {i : Int} {q t : List Int} (B : Bfs n L i q t) {u c : Int} (hu : u ∈ q) (hc : c ∈ rd_L1 L u) (h0 : 0 ≤ c) (h1 : c < n) (hf : rd t c < 0) : Bfs n L i (q ++ [c]) (t.set c.toNat (rd t u + 1)) := by
  have hur := B.qr u hu
  have huv := (B.mem u hur.1 hur.2).2 hu
  have hcl : c < (t.length : Int) := by rw [B.len]; exact h1
  have hcq : c ∉ q := fun h => by have := (B.mem c h0 h1).2 h; omega
  have hne : u ≠ c := fun e => hcq (e ▸ hu)
  have hlu := B.low u hur.1 hur.2
  refine ⟨by simp [B.len], ?_, ?_, ?_, ?_, ?_, ?_, ?_, ?_⟩
  · intro d hd
    rcases List.mem_append.1 hd with h | h
    · exact B.qr d h
    · obtain rfl := List.mem_singleton.1 h; exact ⟨h0, h1⟩
  · rw [List.nodup_append]
    refine ⟨B.nod, by simp, ?_⟩
    intro a ha b hb e
    obtain rfl := List.mem_singleton.1 hb
    exact hcq (e ▸ ha)
  · intro v hv0 hv1
    rw [rd_set h0 hcl hv0, List.mem_append, List.mem_singleton]
    by_cases e : v = c
    · rw [if_pos e]; exact ⟨fun _ => .inr e, fun _ => by omega⟩
    · rw [if_neg e, B.mem v hv0 hv1]
      exact ⟨.inl, fun h => h.resolve_right e⟩
  · intro v hv
    rcases List.mem_append.1 hv with h | h
    · exact B.rch v h
    · obtain rfl := List.mem_singleton.1 h; exact Reach.step _ (B.rch u hu) hc
  · exact List.mem_append_left _ B.start
  · intro v hv0 hv1
    rw [rd_set h0 hcl hv0]
    by_cases e : v = c
    · rw [if_pos e]
      refine ⟨fun h => by omega, fun h => ?_⟩
      exact absurd B.start (by rw [← h, e]; exact hcq)
    · rw [if_neg e]; exact B.zero v hv0 hv1
  · intro v hv0 hv1
    rw [rd_set h0 hcl hv0]
    by_cases e : v = c
    · rw [if_pos e]
      intro _
      refine ⟨u, hur.1, hur.2, e ▸ hc, ?_, ?_⟩
      · rw [rd_set h0 hcl hur.1, if_neg hne]; exact huv
      · rw [rd_set h0 hcl hur.1, if_neg hne]
    · rw [if_neg e]
      intro hp
      obtain ⟨x, hx0, hx1, hx2, hx3, hx4⟩ := B.par v hv0 hv1 hp
      have hxc : x ≠ c := fun e2 => by rw [e2] at hx3; omega
      refine ⟨x, hx0, hx1, hx2, ?_, ?_⟩
      · rw [rd_set h0 hcl hx0, if_neg hxc]; exact hx3
      · rw [rd_set h0 hcl hx0, if_neg hxc]; exact hx4
  · intro v hv0 hv1
    rw [rd_set h0 hcl hv0, List.length_append]
    have := B.low v hv0 hv1
    simp only [List.length_singleton]
    by_cases e : v = c
    · rw [if_pos e]; omega
    · rw [if_neg e]; omega
theorem Bfs.done {n : Nat} {L : List (List Int)} {i : Int} {q t : List Int} (N : Nbs n L) (B : Bfs n L i q t) (h : ∀ v ∈ q, ∀ c ∈ rd_L1 L v, 0 ≤ rd t c) : Far n L i t := by
  have hl := nodup_bound n q B.nod B.qr
  refine ⟨B.len, ?_, B.zero, B.par, fun v h0 h1 => by have := B.low v h0 h1; omega⟩
  intro v h0 h1
  rw [B.mem v h0 h1]
  refine ⟨B.rch v, fun hr => ?_⟩
  have hi := B.qr i B.start
  clear h0 h1
  induction hr with
  | refl => exact B.start
  | step c hb hc ih =>
    have hcr := N.rng _ (B.qr _ ih).1 (B.qr _ ih).2 c hc
    exact (B.mem c hcr.1 hcr.2).1 (h _ ih c hc)
theorem Bfs.init {n : Nat} {L : List (List Int)} {i : Int} (h0 : 0 ≤ i) (h1 : i < n) : Bfs n L i [i] ((List.replicate n (-1)).set i.toNat 0) := by
  have hr : ∀ v : Int, 0 ≤ v → v < n → rd ((List.replicate n (-1)).set i.toNat 0) v = if v = i then 0 else -1 := by
    intro v hv0 hv1
    rw [rd_set h0 (by simpa using h1) hv0]
    congr 1
    have : v.toNat < n := by omega
    simp [rd, this]
  refine ⟨by simp, ?_, by simp, ?_, ?_, by simp, ?_, ?_, ?_⟩
  · intro c hc; obtain rfl := List.mem_singleton.1 hc; exact ⟨h0, h1⟩
  · intro v hv0 hv1
    rw [hr v hv0 hv1, List.mem_singleton]
    by_cases e : v = i
    · simp [e]
    · simp [e]
  · intro v hv; obtain rfl := List.mem_singleton.1 hv; exact Reach.refl _
  · intro v hv0 hv1
    rw [hr v hv0 hv1]
    by_cases e : v = i
    · simp [e]
    · simp [e]
  · intro v hv0 hv1
    rw [hr v hv0 hv1]
    by_cases e : v = i
    · simp [e]
    · simp [e]
  · intro v hv0 hv1
    rw [hr v hv0 hv1]
    by_cases e : v = i
    · simp [e]
    · simp [e]
end Go.Proofs.Ytiimbndjggebdaa.Q
namespace Go.Proofs.Ytiimbndjggebdaa.Q
open Go.RowKit Go.Proofs.YtiimbndjggebdaaW.PrintWords Go.Proofs.YtiimbndjggebdaaW.PrintLast Go.Proofs.YtiimbndjggebdaaW.PrintMore
set_option linter.unusedVariables false
set_option linter.unusedSimpArgs false
def EvPP {α β γ : Type} (g : Nat → Option α) (h : Nat → Option β) (P : α → β → Prop) : Prop := ∃ r s, Ev g r ∧ Ev h s ∧ P r s
theorem EvPP.stepL {α β : Type} {g f : Nat → Option α} {h : Nat → Option β} {P : α → β → Prop} (e : ∀ k, g (k + 1) = f k) (k : EvPP (γ := α) f h P) : EvPP (γ := α) g h P := by
  obtain ⟨r, s, h1, h2, h3⟩ := k
  exact ⟨r, s, Ev.step e h1, h2, h3⟩
theorem EvPP.stepR {α β : Type} {g : Nat → Option α} {h f : Nat → Option β} {P : α → β → Prop} (e : ∀ k, h (k + 1) = f k) (k : EvPP (γ := α) g f P) : EvPP (γ := α) g h P := by
  obtain ⟨r, s, h1, h2, h3⟩ := k
  exact ⟨r, s, h1, Ev.step e h2, h3⟩
theorem EvPP.now {α β : Type} {P : α → β → Prop} (r : α) (s : β) (h : P r s) : EvPP (γ := α) (fun _ => some r) (fun _ => some s) P := ⟨r, s, Ev.now r, Ev.now s, h⟩
theorem rd_zero_drop {q : List Int} {j : Nat} (h : j < q.length) : rd (q.drop j) 0 = rd q (j : Int) := by
  unfold rd
  simp only [List.getD_eq_getElem?_getD, Int.toNat_natCast, Int.toNat_zero, List.getElem?_drop, Nat.add_zero]
theorem spread_l1 {n : Nat} {L : List (List Int)} {i : Int} (N : Nbs n L) : ∀ (d j : Nat) (q t : List Int), n - j = d → j ≤ q.length → Bfs n L i q t → (∀ a, a < j → ∀ c ∈ rd_L1 L (rd q (a : Int)), 0 ≤ rd t c) → EvPP (γ := Nat) (fun k => spec_l2Spread.l1 k L q (j : Int) t) (fun k => impl_spread.l0 k L (q.drop j) t) (fun r s => r = s ∧ Far n L i r) := by
  intro d
  have hfew := N.few
  have hstop : ∀ (j : Nat) (q t : List Int), ¬ j < q.length → j ≤ q.length → Bfs n L i q t → (∀ a, a < j → ∀ c ∈ rd_L1 L (rd q (a : Int)), 0 ≤ rd t c) → EvPP (γ := Nat) (fun k => spec_l2Spread.l1 k L q (j : Int) t) (fun k => impl_spread.l0 k L (q.drop j) t) (fun r s => r = s ∧ Far n L i r) := by
    intro j q t hq hj B hdone
    have hl := nodup_bound n q B.nod B.qr
    refine EvPP.stepL (fun k => by rw [spec_l2Spread.l1, if_neg (by omega)]) (EvPP.stepR (fun k => by rw [impl_spread.l0, if_neg (by simp; omega)]) (EvPP.now _ _ ⟨rfl, B.done N ?_⟩))
    intro v hv c hc
    obtain ⟨a, ha, rfl⟩ := List.getElem_of_mem hv
    exact hdone a (by omega) c (by rw [rd_at ha]; exact hc)
  induction d with
  | zero =>
    intro j q t hd hj B hdone
    have hl := nodup_bound n q B.nod B.qr
    exact hstop j q t (by omega) hj B hdone
  | succ d ih =>
    intro j q t hd hj B hdone
    have hl := nodup_bound n q B.nod B.qr
    by_cases hq : j < q.length
    · have hqr := B.qr _ (rd_mem hq)
      have hz := rd_zero_drop hq
      refine EvPP.stepL (fun k => by rw [spec_l2Spread.l1, if_pos (by omega), if_pos (by omega), if_pos hqr.1, if_pos (by rw [N.len]; exact hqr.2)]) ?_
      refine EvPP.stepR (fun k => by rw [impl_spread.l0, if_pos (by simp; omega), if_pos (by simp; omega), if_pos (by simp; omega), hz, if_pos hqr.1, if_pos (by rw [N.len]; exact hqr.2), show (1 : Int).toNat = 1 from rfl, List.drop_drop]) ?_
      have hrow := N.row (rd q (j : Int))
      have inner : ∀ (e p : Nat) (q2 t2 : List Int), (rd_L1 L (rd q (j : Int))).length - p = e → p ≤ (rd_L1 L (rd q (j : Int))).length → (∀ a, a ≤ j → rd q2 (a : Int) = rd q (a : Int)) → j < q2.length → Bfs n L i q2 t2 → (∀ a, a < j → ∀ c ∈ rd_L1 L (rd q (a : Int)), 0 ≤ rd t2 c) → (∀ b, b < p → 0 ≤ rd t2 (rd (rd_L1 L (rd q (j : Int))) (b : Int))) → EvPP (γ := Nat) (fun k => spec_l2Spread.l2 k L q2 (j : Int) (rd_L1 L (rd q (j : Int))) (p : Int) t2) (fun k => impl_spread.l1 k L (q2.drop (j + 1)) (rd q (j : Int)) t2 (rd_L1 L (rd q (j : Int))) ((rd_L1 L (rd q (j : Int))).length : Int) (p : Int)) (fun r s => r = s ∧ Far n L i r) := by
        intro e
        induction e with
        | zero =>
          intro p q2 t2 he hp hsame hj2 B2 hd2 hrowd
          refine EvPP.stepL (fun k => by rw [spec_l2Spread.l2, if_neg (by omega), wi (by omega)]) ?_
          refine EvPP.stepR (fun k => by rw [impl_spread.l1, if_neg (by omega)]) ?_
          refine ih (j + 1) q2 t2 (by omega) (by omega) B2 ?_
          intro a ha c hc
          rw [hsame a (by omega)] at hc
          by_cases haj : a = j
          · subst haj
            obtain ⟨b, hb, rfl⟩ := List.getElem_of_mem hc
            have := hrowd b (by omega)
            rwa [rd_at hb] at this
          · exact hd2 a (by omega) c hc
        | succ e ihe =>
          intro p q2 t2 he hp hsame hj2 B2 hd2 hrowd
          have hpl : p < (rd_L1 L (rd q (j : Int))).length := by omega
          have hcm := rd_mem hpl
          have hcr := N.rng _ hqr.1 hqr.2 _ hcm
          have hl2 := nodup_bound n q2 B2.nod B2.qr
          refine EvPP.stepL (fun k => by rw [spec_l2Spread.l2, if_pos (by omega), if_pos (by omega), if_pos hcr.1, if_pos (by rw [B2.len]; exact hcr.2)]) ?_
          refine EvPP.stepR (fun k => by rw [impl_spread.l1, if_pos (by omega), if_pos (by omega), if_pos (by omega), if_pos hcr.1, if_pos (by rw [B2.len]; exact hcr.2)]) ?_
          by_cases hneg : rd t2 (rd (rd_L1 L (rd q (j : Int))) (p : Int)) < 0
          · have hlow := B2.low _ hqr.1 hqr.2
            have hjm : rd q (j : Int) ∈ q2 := by rw [← hsame j (Nat.le_refl _)]; exact rd_mem hj2
            have B3 := B2.push hjm hcm hcr.1 hcr.2 hneg
            have hset : ∀ v : Int, 0 ≤ v → 0 ≤ rd t2 v → 0 ≤ rd (t2.set (rd (rd_L1 L (rd q (j : Int))) (p : Int)).toNat (rd t2 (rd q (j : Int)) + 1)) v := by
              intro v hv0 hv
              rw [rd_set hcr.1 (by rw [B2.len]; exact hcr.2) hv0]
              split
              · have := (B2.mem _ hqr.1 hqr.2).2 hjm
                omega
              · exact hv
            have hnext := ihe (p + 1) (q2 ++ [rd (rd_L1 L (rd q (j : Int))) (p : Int)]) _ (by omega) (by omega) (by
              intro a ha
              rw [rd_append (by omega)]
              exact hsame a ha) (by simp; omega) B3 (by
              intro a ha c hc
              have hqa := B.qr _ (rd_mem (show a < q.length by omega))
              exact hset c (N.rng _ hqa.1 hqa.2 _ hc).1 (hd2 a ha c hc)) (by
              intro b hb
              have hbl : b < (rd_L1 L (rd q (j : Int))).length := by omega
              by_cases hbp : b = p
              · subst hbp
                rw [rd_set hcr.1 (by rw [B2.len]; exact hcr.2) hcr.1, if_pos rfl]
                have := (B2.mem _ hqr.1 hqr.2).2 hjm
                omega
              · exact hset _ (N.rng _ hqr.1 hqr.2 _ (rd_mem hbl)).1 (hrowd b (by omega)))
            obtain ⟨r, s, e1, e2, e3⟩ := hnext
            refine ⟨r, s, Ev.congr (fun k => ?_) e1, Ev.congr (fun k => ?_) e2, e3⟩
            · rw [if_pos hneg, if_pos (by omega), if_pos (by omega), hsame j (Nat.le_refl _), if_pos hqr.1, if_pos (by rw [B2.len]; exact hqr.2), if_pos (by omega), wi (by omega), wr (by omega) (by omega)]
            · rw [if_pos hneg, if_pos hqr.1, if_pos (by rw [B2.len]; exact hqr.2), if_pos (by simp; omega), wi (by omega), wr (by omega) (by omega), List.drop_append_of_le_length (by omega)]
          · obtain ⟨r, s, e1, e2, e3⟩ := ihe (p + 1) q2 t2 (by omega) (by omega) hsame hj2 B2 hd2 (by
              intro b hb
              by_cases hbp : b = p
              · subst hbp; omega
              · exact hrowd b (by omega))
            refine ⟨r, s, Ev.congr (fun k => ?_) e1, Ev.congr (fun k => ?_) e2, e3⟩
            · rw [if_neg hneg, wi (by omega)]
            · rw [if_neg hneg, wi (by omega)]
      exact inner _ 0 q t rfl (by omega) (fun _ _ => rfl) hq B hdone (fun b hb => by omega)
    · exact hstop j q t hq hj B hdone
theorem spread_both {n : Nat} {L : List (List Int)} {i : Int} (N : Nbs n L) (h0 : 0 ≤ i) (h1 : i < n) : ∃ t, Ev (fun k => spec_l2Spread.f k L i) t ∧ Ev (fun k => impl_spread.f k L i) t ∧ Far n L i t := by
  have hfew := N.few
  have hlen := N.len
  obtain ⟨r, s, hr, hs, rfl, hF⟩ := spread_l1 N n 0 [i] ((List.replicate n (-1)).set i.toNat 0) (by omega) (by simp) (Bfs.init h0 h1) (fun a ha => by omega)
  refine ⟨r, ?_, ?_, hF⟩
  · refine Ev.congr (fun k => by rw [spec_l2Spread.f, if_pos (by omega), if_pos (by omega), Int.toNat_natCast, hlen]) ?_
    have := Ev.iter n (fun k j => spec_l2Spread.l0 k L i (j : Int) (List.replicate j (-1) ++ List.replicate (n - j) 0)) (fun _ => r) (by
      intro j hj h
      refine Ev.step (fun k => by rw [spec_l2Spread.l0, if_pos (by simp; omega), if_pos (by omega), wi (by omega), Int.toNat_natCast]) ?_
      have e : (List.replicate j (-1 : Int) ++ List.replicate (n - j) 0).set j (-1) = List.replicate (j + 1) (-1) ++ List.replicate (n - (j + 1)) 0 := by
        rw [List.set_append_right _ _ (by simp), List.length_replicate, Nat.sub_self, show n - j = (n - (j + 1)) + 1 by omega, List.replicate_succ, List.set_cons_zero, List.replicate_succ', List.append_assoc]
        rfl
      rw [e]
      exact h) (by
      refine Ev.step (fun k => by rw [spec_l2Spread.l0, if_neg (by simp), if_pos h0, if_pos (by simpa using h1)]) ?_
      simpa using hr) 0 (by omega)
    simpa using this
  · refine Ev.congr (fun k => by rw [impl_spread.f, slices_Repeat_int_int.f, if_pos ⟨rfl, by omega, by omega⟩, Option.bind_some, if_pos h0, if_pos (by simp; omega)]) ?_
    have e : List.replicate ((L.length : Int)).toNat (rd [(-1)] 0) = List.replicate n (-1) := by rw [Int.toNat_natCast, hlen]; rfl
    rw [e]
    simpa using hs
end Go.Proofs.Ytiimbndjggebdaa.Q
namespace Go.Proofs.Ytiimbndjggebdaa.Q
open Go.RowKit Go.Proofs.YtiimbndjggebdaaW.PrintWords Go.Proofs.YtiimbndjggebdaaW.PrintLast Go.Proofs.YtiimbndjggebdaaW.PrintMore
set_option linter.unusedVariables false
set_option linter.unusedSimpArgs false
theorem rdOf_set {t : List Bool} {u v : Int} {y : Bool} (h0 : 0 ≤ u) (h1 : u < t.length) (h2 : 0 ≤ v) : rdOf false (t.set u.toNat y) v = if v = u then y else rdOf false t v := by
  unfold rdOf
  simp only [List.getD_eq_getElem?_getD]
  by_cases h : v = u
  · subst h
    rw [if_pos rfl, List.getElem?_set_self (by omega)]
    rfl
  · rw [if_neg h, List.getElem?_set_ne (by omega)]
structure Seen (n : Nat) (L : List (List Int)) (P : Int → Prop) (x : List Bool) : Prop where
  len : x.length = n
  mem : ∀ v : Int, 0 ≤ v → v < n → (rdOf false x v = true ↔ P v)
theorem Seen.add {n : Nat} {L : List (List Int)} {P : Int → Prop} {x : List Bool} (h : Seen n L P x) {c : Int} (h0 : 0 ≤ c) (h1 : c < n) : Seen n L (fun v => P v ∨ v = c) (x.set c.toNat true) := by
  refine ⟨by simp [h.len], fun v hv0 hv1 => ?_⟩
  rw [rdOf_set h0 (by rw [h.len]; exact h1) hv0]
  by_cases e : v = c
  · rw [if_pos e]; exact ⟨fun _ => .inr e, fun _ => rfl⟩
  · rw [if_neg e, h.mem v hv0 hv1]
    exact ⟨.inl, fun h => h.resolve_right e⟩
end Go.Proofs.Ytiimbndjggebdaa.Q
namespace Go.Proofs.Ytiimbndjggebdaa.Q
open Go.RowKit Go.Proofs.YtiimbndjggebdaaW.PrintWords Go.Proofs.YtiimbndjggebdaaW.PrintLast Go.Proofs.YtiimbndjggebdaaW.PrintMore
set_option linter.unusedVariables false
set_option linter.unusedSimpArgs false
def pos (l : List Int) (c : Int) : Int := if c ∈ l then (l.idxOf c : Int) else -1
structure Rising (n : Nat) (l : List Int) : Prop where
  srt : l.Pairwise (fun a b => a < b)
  rng : ∀ c ∈ l, 0 ≤ c ∧ c < (n : Int)
theorem Rising.nodup {n : Nat} {l : List Int} (h : Rising n l) : l.Nodup := h.srt.imp (fun h => by omega)
theorem Rising.few {n : Nat} {l : List Int} (h : Rising n l) : l.length ≤ n := nodup_bound n l h.nodup h.rng
theorem Rising.lt {n : Nat} {l : List Int} (h : Rising n l) {i j : Nat} (hij : i < j) (hj : j < l.length) : l[i]'(by omega) < l[j] := (List.pairwise_iff_getElem.1 h.srt) i j (by omega) hj hij
theorem pos_none {l : List Int} {c : Int} (h : c ∉ l) : pos l c = -1 := if_neg h
theorem pos_at {n : Nat} {l : List Int} (h : Rising n l) {j : Nat} (hj : j < l.length) : pos l l[j] = j := by
  unfold pos
  rw [if_pos (List.getElem_mem hj)]
  have h1 : l.idxOf l[j] < l.length := List.idxOf_lt_length_of_mem (List.getElem_mem hj)
  have h2 : l[l.idxOf l[j]] = l[j] := List.getElem_idxOf h1
  by_cases e : l.idxOf l[j] = j
  · omega
  · by_cases e2 : l.idxOf l[j] < j
    · have := h.lt e2 hj; omega
    · have := h.lt (show j < l.idxOf l[j] by omega) h1; omega
theorem pos_some {n : Nat} {l : List Int} (h : Rising n l) {c : Int} (hp : 0 ≤ pos l c) : ∃ j, ∃ hj : j < l.length, l[j] = c ∧ pos l c = j := by
  by_cases hc : c ∈ l
  · obtain ⟨j, hj, rfl⟩ := List.getElem_of_mem hc
    exact ⟨j, hj, rfl, pos_at h hj⟩
  · rw [pos_none hc] at hp; omega
def ind (sp : List S52) (l : List Int) : List S52 := sp.filterMap (fun s => if pos l s.f0 ≥ 0 ∧ pos l s.f1 ≥ 0 then some ⟨pos l s.f0, pos l s.f1⟩ else none)
theorem ind_take (sp : List S52) (l : List Int) (i : Nat) (h : i < sp.length) : ind (sp.take (i + 1)) l = ind (sp.take i) l ++ (if pos l sp[i].f0 ≥ 0 ∧ pos l sp[i].f1 ≥ 0 then [⟨pos l sp[i].f0, pos l sp[i].f1⟩] else []) := by
  unfold ind
  rw [List.take_succ_eq_append_getElem h, List.filterMap_append]
  congr 1
  by_cases e : pos l sp[i].f0 ≥ 0 ∧ pos l sp[i].f1 ≥ 0
  · rw [if_pos e]; simp [e]
  · rw [if_neg e]; simp only [List.filterMap_cons, if_neg e, List.filterMap_nil]
theorem ind_len (sp : List S52) (l : List Int) : (ind sp l).length ≤ sp.length := List.length_filterMap_le _ _
theorem pos_lt {n : Nat} {l : List Int} (h : Rising n l) {c d : Int} (hc : 0 ≤ pos l c) (hd : 0 ≤ pos l d) : (pos l c < pos l d ↔ c < d) ∧ (pos l c = pos l d ↔ c = d) := by
  obtain ⟨i, hi, rfl, e1⟩ := pos_some h hc
  obtain ⟨j, hj, rfl, e2⟩ := pos_some h hd
  rw [e1, e2]
  rcases Nat.lt_trichotomy i j with hl | rfl | hl
  · have := h.lt hl hj; constructor <;> omega
  · constructor <;> omega
  · have := h.lt hl hi; constructor <;> omega
theorem ind_ok {n : Nat} {sp : List S52} {l : List Int} (ok : StepsOK n sp) (h : Rising n l) : StepsOK l.length (ind sp l) := by
  refine ⟨?_, ?_⟩
  · intro s hs
    obtain ⟨t, ht, e⟩ := List.mem_filterMap.1 hs
    split at e
    · rename_i hp
      obtain rfl := Option.some.inj e
      obtain ⟨j, hj, _, e2⟩ := pos_some h hp.2
      have := (pos_lt h hp.1 hp.2).1.2 (ok.rng t ht).2.1
      exact ⟨hp.1, this, by simp only []; omega⟩
    · cases e
  · unfold ind
    rw [List.pairwise_filterMap]
    refine ok.srt.imp ?_
    intro a b hab x hx y hy
    split at hx <;> split at hy
    · rename_i ha hb
      obtain rfl := Option.some.inj hx
      obtain rfl := Option.some.inj hy
      rw [lex52_iff] at hab ⊢
      have h1 := pos_lt h ha.1 hb.1
      have h2 := pos_lt h ha.2 hb.2
      rcases hab with hl | ⟨he, hl⟩
      · exact .inl (h1.1.2 hl)
      · exact .inr ⟨h1.2.2 he, h2.1.2 hl⟩
    all_goals first | (cases hy; done) | (cases hx; done)
theorem nbs_of {n : Nat} {sp : List S52} (hn : n ≤ 1048576) (hm : sp.length ≤ 1048576) (ok : StepsOK n sp) : Nbs n (lists n sp) := by
  have hr : ∀ v : Int, 0 ≤ v → v < n → rd_L1 (lists n sp) v = adj sp v := by
    intro v h0 h1
    rw [lists, rd_L1_tab _ h0 h1, show ((v.toNat : Nat) : Int) = v by omega]
  refine ⟨by simp [lists], hn, ?_, ?_⟩
  · intro v h0 h1 c hc
    rw [hr v h0 h1] at hc
    unfold adj befores behinds at hc
    rcases List.mem_append.1 hc with h | h
    · obtain ⟨s, hs, rfl⟩ := List.mem_map.1 h
      have := ok.rng s (List.mem_filter.1 hs).1
      omega
    · obtain ⟨s, hs, rfl⟩ := List.mem_map.1 h
      have := ok.rng s (List.mem_filter.1 hs).1
      omega
  · intro v
    by_cases h : 0 ≤ v ∧ v < n
    · rw [hr v h.1 h.2]
      have := befores_len sp v
      have := behinds_len sp v
      unfold adj
      rw [List.length_append]
      omega
    · by_cases h2 : v.toNat < n
      · have e : rd_L1 (lists n sp) v = rd_L1 (lists n sp) ((v.toNat : Nat) : Int) := by unfold rd_L1; rw [Int.toNat_natCast]
        rw [e, hr _ (by omega) (by omega)]
        have := befores_len sp ((v.toNat : Nat) : Int)
        have := behinds_len sp ((v.toNat : Nat) : Int)
        unfold adj
        rw [List.length_append]
        omega
      · have e : rd_L1 (lists n sp) v = [] := by simp [rd_L1, lists, h2]
        rw [e]; simp
theorem less_at (a b : Int) : cmp_Less_int.f a b = some (decide (a < b)) := by
  simp [cmp_Less_int.f, cmp_isNaN_int.f]
theorem search_at {n : Nat} {l : List Int} (h : Rising n l) (hn : n ≤ 1048576) (a : Int) : ∃ i : Int, Ev (fun k => slices_BinarySearch_int_int.f k l a) (i, decide (0 ≤ pos l a)) ∧ (0 ≤ pos l a → i = pos l a) := by
  have hlen := h.few
  have hfin : ∀ (d lo hi : Nat), hi - lo = d → lo ≤ hi → hi ≤ l.length → (∀ j (hj : j < l.length), j < lo → l[j] < a) → (∀ j (hj : j < l.length), hi ≤ j → a ≤ l[j]) → ∃ i : Int, Ev (fun k => slices_BinarySearch_int_int.l0 k l a (l.length : Int) (lo : Int) (hi : Int)) (i, decide (0 ≤ pos l a)) ∧ (0 ≤ pos l a → i = pos l a) := by
    intro d
    induction d using Nat.strongRecOn with
    | ind d ih =>
      intro lo hi hd hle hhi hlo hup
      by_cases hlt : lo < hi
      · have hmid : wrap64 ((IntKind.u64.wrap (wrap64 ((lo : Int) + (hi : Int)))) / 2) = (((lo + hi) / 2 : Nat) : Int) := by
          rw [wr (x := (lo : Int) + hi) (by omega) (by omega)]
          have e : IntKind.u64.wrap ((lo : Int) + hi) = (lo : Int) + hi := by
            simp only [IntKind.wrap]
            first | omega | (simp [IntKind.signed, IntKind.bits]; omega)
          rw [e, wr (by omega) (by omega)]
          omega
        have hm : (lo + hi) / 2 < l.length := by omega
        by_cases hc : l[(lo + hi) / 2] < a
        · obtain ⟨i, h1, h2⟩ := ih (hi - ((lo + hi) / 2 + 1)) (by omega) ((lo + hi) / 2 + 1) hi rfl (by omega) hhi (by
            intro j hj hjl
            by_cases e : j = (lo + hi) / 2
            · subst e; exact hc
            · have := h.lt (show j < (lo + hi) / 2 by omega) hm; omega) hup
          refine ⟨i, Ev.step (fun k => by rw [slices_BinarySearch_int_int.l0, if_pos (by omega), hmid, if_pos (by omega), if_pos (by omega), rd_at hm, less_at, Option.bind_some, if_pos (decide_eq_true hc), wi (by omega)]) h1, h2⟩
        · obtain ⟨i, h1, h2⟩ := ih ((lo + hi) / 2 - lo) (by omega) lo ((lo + hi) / 2) rfl (by omega) (by omega) hlo (by
            intro j hj hjl
            by_cases e : j = (lo + hi) / 2
            · subst e; omega
            · have := h.lt (show (lo + hi) / 2 < j by omega) hj; omega)
          refine ⟨i, Ev.step (fun k => by rw [slices_BinarySearch_int_int.l0, if_pos (by omega), hmid, if_pos (by omega), if_pos (by omega), rd_at hm, less_at, Option.bind_some, if_neg (by simpa using hc)]) h1, h2⟩
      · obtain rfl : lo = hi := by omega
        by_cases hl : lo < l.length
        · by_cases he : l[lo] = a
          · have hp : pos l a = lo := by rw [← he]; exact pos_at h hl
            refine ⟨lo, Ev.step (fun k => by rw [slices_BinarySearch_int_int.l0, if_neg (by omega), if_pos (by omega), if_pos (by omega), if_pos (by omega), rd_at hl, if_pos he]) ?_, fun _ => hp.symm⟩
            rw [show decide (0 ≤ pos l a) = true from decide_eq_true (by omega)]
            exact Ev.now _
          · have hp : ¬ 0 ≤ pos l a := by
              intro hp
              obtain ⟨j, hj, hja, _⟩ := pos_some h hp
              have h3 := hup lo hl (Nat.le_refl _)
              by_cases e : j < lo
              · have := hlo j hj e; omega
              · by_cases e2 : j = lo
                · subst e2; exact he hja
                · have := h.lt (show lo < j by omega) hj; omega
            refine ⟨lo, Ev.step (fun k => by rw [slices_BinarySearch_int_int.l0, if_neg (by omega), if_pos (by omega), if_pos (by omega), if_pos (by omega), rd_at hl, if_neg he, slices_isNaN_int.f, Option.bind_some, if_neg (by simp)]) ?_, fun h => absurd h hp⟩
            rw [show decide (0 ≤ pos l a) = false from decide_eq_false hp]
            exact Ev.now _
        · have hp : ¬ 0 ≤ pos l a := by
            intro hp
            obtain ⟨j, hj, hja, _⟩ := pos_some h hp
            have := hlo j hj (by omega); omega
          refine ⟨lo, Ev.step (fun k => by rw [slices_BinarySearch_int_int.l0, if_neg (by omega), if_neg (by omega)]) ?_, fun h => absurd h hp⟩
          rw [show decide (0 ≤ pos l a) = false from decide_eq_false hp]
          exact Ev.now _
  exact hfin l.length 0 l.length (by omega) (by omega) (by omega) (fun j hj h => by omega) (fun j hj h => by omega)
theorem isRising_at {n : Nat} {l : List Int} (h : Rising n l) (hn : n ≤ 1048576) : Ev (fun k => impl_isRising.f k l (n : Int)) true := by
  have hlen := h.few
  exact Ev.iter l.length (fun k i => impl_isRising.l0 k l (n : Int) l (l.length : Int) (i : Int)) (fun _ => true) (by
    intro i hi hr
    have hc := h.rng _ (List.getElem_mem hi)
    refine Ev.step (fun k => by rw [impl_isRising.l0, if_pos (by omega), if_pos (by omega), if_pos (by omega), impl_between.f, rd_at hi, if_pos hc.1, wr (by omega) (by omega), Option.bind_some, if_pos (decide_eq_true (by omega)), wi (by omega)]) ?_
    by_cases h0 : i = 0
    · exact Ev.congr (fun k => by rw [if_neg (by omega)]) hr
    · have h1 := h.lt (show i - 1 < i by omega) hi
      refine Ev.congr (fun k => by rw [if_pos (by omega), wr (by omega) (by omega), if_pos (by omega), if_pos (by omega), show (i : Int) - 1 = ((i - 1 : Nat) : Int) by omega, rd_at (by omega), if_neg (by omega)]) hr) (by
    exact Ev.step (fun k => by rw [impl_isRising.l0, if_neg (by omega)]) (Ev.now _)) 0 (by omega)
theorem rd_map_take (st : List (List Int)) (l : List Int) (i : Nat) (h : i < l.length) : (l.take (i + 1)).map (rd_L1 st) = (l.take i).map (rd_L1 st) ++ [rd_L1 st l[i]] := by
  rw [List.take_succ_eq_append_getElem h, List.map_append]; rfl
theorem InducedSpace_at (st : List (List Int)) (sp : List S52) (l : List Int) (hv : okSpace st sp = true) (hr : ∀ x ∈ st, x.length ≤ 1048576) (h : Rising st.length l) : Ev (fun k => impl_InducedSpace.f k st sp l) (l.map (rd_L1 st), ind sp l, true) := by
  obtain ⟨hn, hm, ok⟩ := okSpace_steps hv
  have hlen := h.few
  have hI := isSpace_at st sp (fun x hx => by have := hr x hx; omega)
  rw [hv] at hI
  refine Ev.bind hI ?_
  refine Ev.congr (fun k => by rw [if_pos rfl]) ?_
  refine Ev.bind (isRising_at h (by omega)) ?_
  refine Ev.step (fun k => by rw [impl_InducedSpace.j0, if_neg (by simp)]) ?_
  have second := Ev.iter sp.length (fun k i => impl_InducedSpace.l1 k l sp (sp.length : Int) (i : Int) (l.map (rd_L1 st)) (ind (sp.take i) l)) (fun _ => (l.map (rd_L1 st), ind sp l, true)) (by
    intro i hi hx
    obtain ⟨p0, b0, e0⟩ := search_at h (by omega) sp[i].f0
    obtain ⟨p1, b1, e1⟩ := search_at h (by omega) sp[i].f1
    refine Ev.step (fun k => by rw [impl_InducedSpace.l1, if_pos (by omega), if_pos (by omega), if_pos (by omega), rd_T52_at hi]) ?_
    refine Ev.bind b0 ?_
    refine Ev.bind b1 ?_
    rw [ind_take _ _ _ hi] at hx
    have hl := ind_len (sp.take i) l
    rw [List.length_take] at hl
    by_cases c0 : 0 ≤ pos l sp[i].f0
    · by_cases c1 : 0 ≤ pos l sp[i].f1
      · rw [if_pos ⟨c0, c1⟩] at hx
        refine Ev.congr (fun k => by rw [if_pos (decide_eq_true c0), if_pos (decide_eq_true c1), if_pos (by omega), e0 c0, e1 c1, wi (by omega)]) hx
      · rw [if_neg (fun hh => c1 hh.2), List.append_nil] at hx
        refine Ev.congr (fun k => by rw [if_pos (decide_eq_true c0), if_neg (by simpa using c1), wi (by omega)]) hx
    · rw [if_neg (fun hh => c0 hh.1), List.append_nil] at hx
      refine Ev.congr (fun k => by rw [if_neg (by simpa using c0), wi (by omega)]) hx) (by
    refine Ev.step (fun k => by rw [impl_InducedSpace.l1, if_neg (by omega)]) ?_
    rw [List.take_length]
    exact Ev.now _) 0 (by omega)
  have first := Ev.iter l.length (fun k i => impl_InducedSpace.l0 k l l (l.length : Int) (i : Int) st sp ((l.take i).map (rd_L1 st))) (fun _ => (l.map (rd_L1 st), ind sp l, true)) (by
    intro i hi hx
    have hc := h.rng _ (List.getElem_mem hi)
    have hrow : (rd_L1 st l[i]).length ≤ 1048576 := by
      unfold rd_L1
      rw [List.getD_eq_getElem?_getD]
      cases hg : st[l[i].toNat]? with
      | none => simp
      | some x => exact hr x (List.mem_of_getElem? hg)
    rw [rd_map_take _ _ _ hi] at hx
    refine Ev.step (fun k => by rw [impl_InducedSpace.l0, if_pos (by omega), if_pos (by omega), if_pos (by omega), rd_at hi, if_pos hc.1, if_pos hc.2, slices_Clone_int_int.f, if_pos (by omega), Option.bind_some, if_pos (by simp; omega), wi (by omega)]) hx) (by
    refine Ev.step (fun k => by rw [impl_InducedSpace.l0, if_neg (by omega)]) ?_
    rw [List.take_length]
    simpa [ind] using second) 0 (by omega)
  simpa using first
theorem l2Induced_at (st : List (List Int)) (sp : List S52) (l : List Int) (hn : st.length ≤ 1048576) (hm : sp.length ≤ 1048576) (ok : StepsOK st.length sp) (hr : ∀ x ∈ st, x.length ≤ 1048576) (h : Rising st.length l) : Ev (fun k => spec_l2Induced.f k st sp l) (l.map (rd_L1 st), ind sp l) := by
  have hlen := h.few
  refine Ev.congr (fun k => by rw [spec_l2Induced.f, if_pos (by omega), if_pos (by omega), Int.toNat_natCast]) ?_
  have third : ∀ x18 : List Int, x18.length = st.length → (∀ c : Int, 0 ≤ c → c < st.length → rd x18 c = pos l c) → Ev (fun k => spec_l2Induced.l2 k 0 x18 st sp (l.map (rd_L1 st)) []) (l.map (rd_L1 st), ind sp l) := by
    intro x18 h18 hp
    have := Ev.iter sp.length (fun k i => spec_l2Induced.l2 k (i : Int) x18 st sp (l.map (rd_L1 st)) (ind (sp.take i) l)) (fun _ => (l.map (rd_L1 st), ind sp l)) (by
      intro i hi hx
      obtain ⟨a, b, c⟩ := ok.rng _ (List.getElem_mem hi)
      refine Ev.step (fun k => by rw [spec_l2Induced.l2, if_pos (by omega), if_pos (by omega), rd_T52_at hi, if_pos (by omega), if_pos (by omega), if_pos (by omega), if_pos (by omega), hp _ (by omega) (by omega), hp _ (by omega) (by omega)]) ?_
      rw [ind_take _ _ _ hi] at hx
      have hl := ind_len (sp.take i) l
      rw [List.length_take] at hl
      by_cases c0 : pos l sp[i].f0 ≥ 0
      · by_cases c1 : pos l sp[i].f1 ≥ 0
        · rw [if_pos ⟨c0, c1⟩] at hx
          refine Ev.congr (fun k => by rw [if_pos c0, if_pos c1, if_pos (by omega), wi (by omega)]) hx
        · rw [if_neg (fun hh => c1 hh.2), List.append_nil] at hx
          refine Ev.congr (fun k => by rw [if_pos c0, if_neg c1, wi (by omega)]) hx
      · rw [if_neg (fun hh => c0 hh.1), List.append_nil] at hx
        refine Ev.congr (fun k => by rw [if_neg c0, wi (by omega)]) hx) (by
      refine Ev.step (fun k => by rw [spec_l2Induced.l2, if_neg (by omega)]) ?_
      rw [List.take_length]
      exact Ev.now _) 0 (by omega)
    simpa [ind] using this
  have second : ∀ (d i : Nat) (x18 : List Int), l.length - i = d → i ≤ l.length → x18.length = st.length → (∀ c : Int, 0 ≤ c → c < st.length → rd x18 c = pos (l.take i) c) → Ev (fun k => spec_l2Induced.l1 k l (i : Int) x18 st sp ((l.take i).map (rd_L1 st)) []) (l.map (rd_L1 st), ind sp l) := by
    intro d
    induction d with
    | zero =>
      intro i x18 hd hi h18 hp
      obtain rfl : i = l.length := by omega
      refine Ev.step (fun k => by rw [spec_l2Induced.l1, if_neg (by omega)]) ?_
      rw [List.take_length] at hp ⊢
      exact third x18 h18 hp
    | succ d ih =>
      intro i x18 hd hi h18 hp
      have hil : i < l.length := by omega
      have hc := h.rng _ (List.getElem_mem hil)
      have hrow : (rd_L1 st l[i]).length ≤ 1048576 := by
        unfold rd_L1
        rw [List.getD_eq_getElem?_getD]
        cases hg : st[l[i].toNat]? with
        | none => simp
        | some x => exact hr x (List.mem_of_getElem? hg)
      have hx := ih (i + 1) (x18.set l[i].toNat (i : Int)) (by omega) (by omega) (by simp [h18]) (by
        intro c h0 h1
        rw [rd_set hc.1 (by rw [h18]; exact hc.2) h0]
        have hR : Rising st.length (l.take (i + 1)) := ⟨h.srt.sublist (List.take_sublist _ _), fun c hc => h.rng c (List.mem_of_mem_take hc)⟩
        have hR0 : Rising st.length (l.take i) := ⟨h.srt.sublist (List.take_sublist _ _), fun c hc => h.rng c (List.mem_of_mem_take hc)⟩
        by_cases e : c = l[i]
        · rw [if_pos e, e]
          have h2 := pos_at hR (j := i) (by simp; omega)
          rw [List.getElem_take] at h2
          exact h2.symm
        · rw [if_neg e, hp c h0 h1]
          by_cases hm : c ∈ l.take i
          · obtain ⟨j, hj, rfl⟩ := List.getElem_of_mem hm
            rw [pos_at hR0 hj]
            simp only [List.length_take] at hj
            have h2 := pos_at hR (j := j) (by simp; omega)
            simp only [List.getElem_take] at h2 ⊢
            exact h2.symm
          · rw [pos_none hm, pos_none]
            rw [List.take_succ_eq_append_getElem hil, List.mem_append, List.mem_singleton]
            exact fun hh => hh.elim hm e)
      rw [rd_map_take _ _ _ hil] at hx
      refine Ev.step (fun k => by rw [spec_l2Induced.l1, if_pos (by omega), if_pos (by omega), rd_at hil, if_pos hc.1, if_pos (by rw [h18]; exact hc.2), if_pos hc.2, spec_l1Own.f, Option.bind_some, if_pos (by simp; omega), Option.bind_some, if_pos (by simp; omega), wi (by omega), List.nil_append]) hx
  have first := Ev.iter st.length (fun k j => spec_l2Induced.l0 k l (j : Int) (List.replicate j (-1) ++ List.replicate (st.length - j) 0) st sp [] []) (fun _ => (l.map (rd_L1 st), ind sp l)) (by
    intro j hj hx
    refine Ev.step (fun k => by rw [spec_l2Induced.l0, if_pos (by simp; omega), if_pos (by omega), wi (by omega), Int.toNat_natCast]) ?_
    have e : (List.replicate j (-1 : Int) ++ List.replicate (st.length - j) 0).set j (-1) = List.replicate (j + 1) (-1) ++ List.replicate (st.length - (j + 1)) 0 := by
      rw [List.set_append_right _ _ (by simp), List.length_replicate, Nat.sub_self, show st.length - j = (st.length - (j + 1)) + 1 by omega, List.replicate_succ, List.set_cons_zero, List.replicate_succ', List.append_assoc]
      rfl
    rw [e]
    exact hx) (by
    refine Ev.step (fun k => by rw [spec_l2Induced.l0, if_neg (by simp)]) ?_
    have := second l.length 0 (List.replicate st.length (-1)) (by omega) (by omega) (by simp) (by
      intro c h0 h1
      have : c.toNat < st.length := by omega
      simp [rd, pos, this])
    simpa using this) 0 (by omega)
  simpa using first
end Go.Proofs.Ytiimbndjggebdaa.Q
namespace Go.Proofs.Ytiimbndjggebdaa.Q
open Go.RowKit Go.Proofs.YtiimbndjggebdaaW.PrintWords Go.Proofs.YtiimbndjggebdaaW.PrintLast Go.Proofs.YtiimbndjggebdaaW.PrintMore
set_option linter.unusedVariables false
set_option linter.unusedSimpArgs false
theorem adj_mem (sp : List S52) (c v : Int) : c ∈ adj sp v ↔ ∃ s ∈ sp, (s.f1 = v ∧ s.f0 = c) ∨ (s.f0 = v ∧ s.f1 = c) := by
  unfold adj befores behinds
  simp only [List.mem_append, List.mem_map, List.mem_filter, decide_eq_true_eq]
  constructor
  · rintro (⟨s, ⟨h1, h2⟩, h3⟩ | ⟨s, ⟨h1, h2⟩, h3⟩)
    · exact ⟨s, h1, .inl ⟨h2, h3⟩⟩
    · exact ⟨s, h1, .inr ⟨h2, h3⟩⟩
  · rintro ⟨s, h1, ⟨h2, h3⟩ | ⟨h2, h3⟩⟩
    · exact .inl ⟨s, ⟨h1, h2⟩, h3⟩
    · exact .inr ⟨s, ⟨h1, h2⟩, h3⟩
theorem adj_symm (sp : List S52) (c v : Int) : c ∈ adj sp v ↔ v ∈ adj sp c := by
  rw [adj_mem, adj_mem]
  constructor <;> (rintro ⟨s, h1, h2 | h2⟩ <;> exact ⟨s, h1, by first | exact .inr ⟨h2.2, h2.1⟩ | exact .inl ⟨h2.2, h2.1⟩⟩)
theorem rd_lists (n : Nat) (sp : List S52) (v : Int) (h0 : 0 ≤ v) (h1 : v < n) : rd_L1 (lists n sp) v = adj sp v := by
  rw [lists, rd_L1_tab _ h0 h1, show ((v.toNat : Nat) : Int) = v by omega]
theorem walk_l0 {n : Nat} {L : List (List Int)} {b : Int} {t : List Int} (N : Nbs n L) (sym : ∀ u v : Int, 0 ≤ u → u < n → 0 ≤ v → v < n → v ∈ rd_L1 L u → u ∈ rd_L1 L v) (F : Far n L b t) (hb0 : 0 ≤ b) (hb1 : b < n) : ∀ (d : Nat) (v : Int) (out : List Int), 0 ≤ v → v < n → rd t v = (d : Int) → out.length + d < 17592186044416 → (∀ c ∈ out, 0 ≤ c ∧ c < (n : Int)) →
    EvPP (γ := Nat) (fun k => spec_l2Walk.l0 k v b out L t) (fun k => impl_Space_firstWay.l0 k v b out L t) (fun r s => s = (r, true) ∧ r.length = out.length + d ∧ ∀ c ∈ r, 0 ≤ c ∧ c < (n : Int)) := by
  intro d
  have hfew := N.few
  induction d with
  | zero =>
    intro v out h0 h1 hv hl ho
    have hvb : v = b := (F.zero v h0 h1).1 (by simpa using hv)
    exact EvPP.stepL (fun k => by rw [spec_l2Walk.l0, if_pos hvb]) (EvPP.stepR (fun k => by rw [impl_Space_firstWay.l0, if_pos hvb]) (EvPP.now _ _ ⟨rfl, rfl, ho⟩))
  | succ d ih =>
    intro v out h0 h1 hv hl ho
    have hvb : ¬ v = b := fun e => by have := (F.zero v h0 h1).2 e; omega
    obtain ⟨u, hu0, hu1, hu2, hu3, hu4⟩ := F.par v h0 h1 (by omega)
    have huv := sym u v hu0 hu1 h0 h1 hu2
    have hrow := N.row v
    have hlow := F.low v h0 h1
    refine EvPP.stepL (fun k => by rw [spec_l2Walk.l0, if_neg hvb]) ?_
    refine EvPP.stepR (fun k => by rw [impl_Space_firstWay.l0, if_neg hvb, if_pos h0, if_pos (by rw [N.len]; exact h1)]) ?_
    have inner : ∀ (e p : Nat), (rd_L1 L v).length - p = e → (∃ q, p ≤ q ∧ q < (rd_L1 L v).length ∧ rd t (rd (rd_L1 L v) (q : Int)) = (d : Int)) → EvPP (γ := Nat) (fun k => spec_l2Walk.l1 k v b out (p : Int) L t) (fun k => impl_Space_firstWay.l1 k v b out L t (rd_L1 L v) ((rd_L1 L v).length : Int) (p : Int)) (fun r s => s = (r, true) ∧ r.length = out.length + (d + 1) ∧ ∀ c ∈ r, 0 ≤ c ∧ c < (n : Int)) := by
      intro e
      induction e with
      | zero => rintro p he ⟨q, hq1, hq2, hq3⟩; omega
      | succ e ihe =>
        rintro p he ⟨q, hq1, hq2, hq3⟩
        have hpl : p < (rd_L1 L v).length := by omega
        have hcm := rd_mem hpl
        have hcr := N.rng _ h0 h1 _ hcm
        have hw : wrap64 (rd t v - 1) = (d : Int) := by rw [hv]; unfold wrap64; omega
        refine EvPP.stepL (fun k => by rw [spec_l2Walk.l1, if_pos h0, if_pos (by rw [N.len]; exact h1), if_pos (by omega), if_pos (by omega), if_pos hcr.1, if_pos (by rw [F.len]; exact hcr.2), if_pos (by rw [F.len]; exact h1), hw]) ?_
        refine EvPP.stepR (fun k => by rw [impl_Space_firstWay.l1, if_pos (by omega), if_pos (by omega), if_pos (by omega), if_pos hcr.1, if_pos (by rw [F.len]; exact hcr.2), if_pos h0, if_pos (by rw [F.len]; exact h1), hw]) ?_
        by_cases hc : rd t (rd (rd_L1 L v) (p : Int)) = (d : Int)
        · obtain ⟨r, s, e1, e2, e3, e4, e5⟩ := ih (rd (rd_L1 L v) (p : Int)) (out ++ [rd (rd_L1 L v) (p : Int)]) hcr.1 hcr.2 hc (by simp; omega) (by
            intro c hc'
            rcases List.mem_append.1 hc' with h | h
            · exact ho c h
            · rw [List.mem_singleton.1 h]; exact hcr)
          refine ⟨r, s, Ev.congr (fun k => ?_) e1, Ev.congr (fun k => ?_) e2, e3, by rw [e4]; simp; omega, e5⟩
          · rw [if_pos hc, if_pos (by omega)]
          · rw [if_pos hc, if_pos (by omega)]
        · obtain ⟨r, s, e1, e2, e3⟩ := ihe (p + 1) (by omega) ⟨q, by
            have : p ≠ q := fun e => by subst e; exact hc hq3
            omega, hq2, hq3⟩
          refine ⟨r, s, Ev.congr (fun k => ?_) e1, Ev.congr (fun k => ?_) e2, e3⟩
          · rw [if_neg hc, wi (by omega)]
          · rw [if_neg hc, wi (by omega)]
    obtain ⟨q, hq1, hq2⟩ := List.getElem_of_mem huv
    exact inner _ 0 rfl ⟨q, by omega, hq1, by rw [rd_at hq1, hq2]; omega⟩
theorem walk_both (st : List (List Int)) (sp : List S52) (a b : Int) (hn : st.length ≤ 1048576) (hm : sp.length ≤ 1048576) (ok : StepsOK st.length sp) (ha0 : 0 ≤ a) (ha1 : a < st.length) (hb0 : 0 ≤ b) (hb1 : b < st.length) :
    ∃ w : List Int, Ev (fun k => spec_l2Walk.f k st sp a b) w ∧ Ev (fun k => impl_Space_firstWay.f k st sp a b) (w, decide (w ≠ [])) ∧ (w ≠ [] ↔ Reach (lists st.length sp) b a) ∧ w.length ≤ 1048577 ∧ ∀ c ∈ w, 0 ≤ c ∧ c < (st.length : Int) := by
  have N := nbs_of hn hm ok
  obtain ⟨t, t1, t2, F⟩ := spread_both N hb0 hb1
  have hL := l2Lists_at st sp hn hm ok.rng
  have hR := roads_at st sp hn hm ok
  have hmem := F.mem a ha0 ha1
  have hlow := F.low a ha0 ha1
  by_cases hneg : rd t a < 0
  · refine ⟨[], ?_, ?_, ?_, by simp, by simp⟩
    · refine Ev.bind hL (Ev.bind t1 ?_)
      refine Ev.congr (fun k => by rw [if_pos ha0, if_pos (by rw [F.len]; exact ha1), if_pos hneg]) (Ev.now _)
    · refine Ev.bind hR (Ev.bind t2 ?_)
      refine Ev.congr (fun k => by rw [if_pos ha0, if_pos (by rw [F.len]; exact ha1), if_pos hneg]; rfl) (Ev.now _)
    · constructor
      · intro h; exact absurd rfl h
      · intro h; have := hmem.2 h; omega
  · obtain ⟨d, hd⟩ := Int.eq_ofNat_of_zero_le (show 0 ≤ rd t a by omega)
    obtain ⟨r, s, e1, e2, e3, e4, e5⟩ := walk_l0 N (fun u v hu0 hu1 hv0 hv1 h => by
      rw [rd_lists _ _ _ hu0 hu1] at h
      rw [rd_lists _ _ _ hv0 hv1]
      exact (adj_symm sp v u).1 h) F hb0 hb1 d a [a] ha0 ha1 hd (by simp; omega) (by intro c hc; rw [List.mem_singleton.1 hc]; exact ⟨ha0, ha1⟩)
    subst e3
    have hne : r ≠ [] := fun e => by rw [e] at e4; simp at e4; omega
    refine ⟨r, ?_, ?_, ⟨fun _ => hmem.1 (by omega), fun _ => hne⟩, by rw [e4]; simp; omega, e5⟩
    · refine Ev.bind hL (Ev.bind t1 ?_)
      exact Ev.congr (fun k => by rw [if_pos ha0, if_pos (by rw [F.len]; exact ha1), if_neg hneg]) e1
    · refine Ev.bind hR (Ev.bind t2 ?_)
      rw [show decide (r ≠ []) = true from decide_eq_true hne]
      exact Ev.congr (fun k => by rw [if_pos ha0, if_pos (by rw [F.len]; exact ha1), if_neg hneg]) e2
end Go.Proofs.Ytiimbndjggebdaa.Q
namespace Go.Proofs.Ytiimbndjggebdaa.Q
open Go.RowKit Go.Proofs.YtiimbndjggebdaaW.PrintWords Go.Proofs.YtiimbndjggebdaaW.PrintLast Go.Proofs.YtiimbndjggebdaaW.PrintMore
set_option linter.unusedVariables false
set_option linter.unusedSimpArgs false
def undT (hs : List Int) (h : Int) (i : Nat) : List Int := ((List.range i).filter (fun j : Nat => decide (rd hs (j : Int) ≤ h))).map (fun j : Nat => (j : Int))
def und (hs : List Int) (h : Int) : List Int := undT hs h hs.length
theorem undT_succ (hs : List Int) (h : Int) (i : Nat) : undT hs h (i + 1) = undT hs h i ++ (if rd hs (i : Int) ≤ h then [(i : Int)] else []) := by
  unfold undT
  rw [List.range_succ, List.filter_append, List.map_append]
  congr 1
  by_cases e : rd hs (i : Int) ≤ h <;> simp [e]
theorem undT_len (hs : List Int) (h : Int) (i : Nat) : (undT hs h i).length ≤ i := by
  unfold undT
  rw [List.length_map]
  have := List.length_filter_le (fun j : Nat => decide (rd hs (j : Int) ≤ h)) (List.range i)
  simpa using this
theorem und_rising (hs : List Int) (h : Int) : Rising hs.length (und hs h) := by
  refine ⟨?_, ?_⟩
  · unfold und undT
    rw [List.pairwise_map]
    exact (List.Pairwise.filter _ List.pairwise_lt_range).imp (fun h => by omega)
  · intro c hc
    obtain ⟨j, hj, rfl⟩ := List.mem_map.1 hc
    have := List.mem_range.1 (List.mem_filter.1 hj).1
    omega
theorem l11Under_at (hs : List Int) (h : Int) (hl : hs.length ≤ 1048576) : Ev (fun k => spec_l11Under.f k hs h) (und hs h) := by
  exact Ev.iter hs.length (fun k i => spec_l11Under.l0 k hs h (undT hs h i) (i : Int)) (fun _ => und hs h) (by
    intro i hi hx
    have hlen := undT_len hs h i
    rw [undT_succ] at hx
    refine Ev.step (fun k => by rw [spec_l11Under.l0, if_pos (by omega), if_pos (by omega)]) ?_
    by_cases e : rd hs (i : Int) ≤ h
    · rw [if_pos e] at hx
      exact Ev.congr (fun k => by rw [if_pos e, if_pos (by omega), wi (by omega)]) hx
    · rw [if_neg e, List.append_nil] at hx
      exact Ev.congr (fun k => by rw [if_neg e, wi (by omega)]) hx) (by
    exact Ev.step (fun k => by rw [spec_l11Under.l0, if_neg (by omega)]; rfl) (Ev.now _)) 0 (by omega)
theorem below_at (hs : List Int) (h : Int) (hl : hs.length ≤ 1048576) : Ev (fun k => impl_below.f k hs h) (und hs h) := by
  exact Ev.iter hs.length (fun k i => impl_below.l0 k h (undT hs h i) hs (hs.length : Int) (i : Int)) (fun _ => und hs h) (by
    intro i hi hx
    have hlen := undT_len hs h i
    rw [undT_succ] at hx
    refine Ev.step (fun k => by rw [impl_below.l0, if_pos (by omega), if_pos (by omega), if_pos (by omega)]) ?_
    by_cases e : rd hs (i : Int) ≤ h
    · rw [if_pos e] at hx
      exact Ev.congr (fun k => by rw [if_pos e, if_pos (by omega), wi (by omega)]) hx
    · rw [if_neg e, List.append_nil] at hx
      exact Ev.congr (fun k => by rw [if_neg e, wi (by omega)]) hx) (by
    exact Ev.step (fun k => by rw [impl_below.l0, if_neg (by omega)]; rfl) (Ev.now _)) 0 (by omega)
def loadsOK (n : Nat) (hs : List Int) : Bool := hs.all (fun v => decide (0 ≤ v) && decide (v ≤ 999)) && decide ((hs.length : Int) = (n : Int))
def okHigh (st : List (List Int)) (sp : List S52) (hs : List Int) : Bool := okSpace st sp && loadsOK st.length hs
theorem l11Numbers_at (n : Nat) (hs : List Int) (hl : hs.length ≤ 1048576) : Ev (fun k => spec_l11Numbers.f k hs (n : Int)) (loadsOK n hs) := by
  have hfin := Ev.iter hs.length (fun k i => spec_l11Numbers.l0 k hs (n : Int) (i : Int)) (fun i => (hs.drop i).all (fun v => decide (0 ≤ v) && decide (v ≤ 999)) && decide ((hs.length : Int) = (n : Int))) (by
    intro i hi h
    refine Ev.step (fun k => by rw [spec_l11Numbers.l0, if_pos (by omega), if_pos (by omega), rd_at hi, spec_l1In.f]) ?_
    rw [all_drop _ _ _ hi]
    by_cases h1 : hs[i] ≥ 0
    · refine Ev.congr (fun k => by rw [if_pos h1, Option.bind_some]) ?_
      by_cases h2 : hs[i] ≤ 999
      · refine Ev.congr (fun k => by rw [if_pos (decide_eq_true h2), wi (by omega)]) ?_
        simpa [h1, h2] using h
      · refine Ev.congr (fun k => by rw [if_neg (by simpa using h2)]) ?_
        simpa [h2] using Ev.now false
    · refine Ev.congr (fun k => by rw [if_neg h1, Option.bind_some, if_neg (by simp)]) ?_
      simpa [h1] using Ev.now false) (by
    refine Ev.step (fun k => by rw [spec_l11Numbers.l0, if_neg (by omega)]) ?_
    rw [List.drop_length]
    exact Ev.now _) 0 (by omega)
  simpa [spec_l11Numbers.f, loadsOK] using hfin
theorem areLoads_at (n : Nat) (hs : List Int) : impl_areLoads.f hs (n : Int) = some (loadsOK n hs) := by
  unfold impl_areLoads.f loadsOK
  rw [Bool.and_comm, List.not_any_eq_all_not]
  simp
theorem l11Heights_at (st : List (List Int)) (sp : List S52) (hs : List Int) (hr : ∀ x ∈ st, x.length ≤ 1048576) (hl : hs.length ≤ 1048576) : Ev (fun k => spec_l11Heights.f k st sp hs) (okHigh st sp hs) := by
  refine Ev.bind (l2Space_at st sp (fun x hx => by have := hr x hx; omega)) ?_
  unfold okHigh
  cases okSpace st sp with
  | false => exact Ev.now _
  | true =>
    refine Ev.congr (fun k => by rw [if_pos rfl]) ?_
    refine Ev.bind (l11Numbers_at _ hs hl) ?_
    rw [Bool.true_and]
    exact Ev.now _
theorem isHigh_at (st : List (List Int)) (sp : List S52) (hs : List Int) (hr : ∀ x ∈ st, x.length ≤ 1048576) : Ev (fun k => impl_isHigh.f k st sp hs) (okHigh st sp hs) := by
  refine Ev.bind (isSpace_at st sp (fun x hx => by have := hr x hx; omega)) ?_
  unfold okHigh
  cases okSpace st sp with
  | false => exact Ev.now _
  | true =>
    refine Ev.congr (fun k => by rw [if_pos rfl, areLoads_at, Option.bind_some]) ?_
    rw [Bool.true_and]
    exact Ev.now _
end Go.Proofs.Ytiimbndjggebdaa.Q
namespace Go.Proofs.Ytiimbndjggebdaa.Q
open Go.RowKit Go.Proofs.YtiimbndjggebdaaW.PrintWords Go.Proofs.YtiimbndjggebdaaW.PrintLast Go.Proofs.YtiimbndjggebdaaW.PrintMore
set_option linter.unusedVariables false
set_option linter.unusedSimpArgs false
theorem compact_parts (zs : List Int) : ∀ m, m ≤ zs.length → (Lib.compactUpTo zs.toArray m).Sublist (zs.take m) ∧ ∀ x ∈ zs.take m, x ∈ Lib.compactUpTo zs.toArray m := by
  intro m
  induction m with
  | zero => intro _; simp [Lib.compactUpTo]
  | succ m ih =>
    intro hm
    obtain ⟨h1, h2⟩ := ih (by omega)
    have hg : zs.toArray[m]! = zs[m] := by simp [show m < zs.length by omega]
    rw [Lib.compactUpTo_succ, List.take_succ_eq_append_getElem (show m < zs.length by omega), hg]
    by_cases hk : Lib.keeps zs.toArray m = true
    · rw [if_pos hk]
      refine ⟨h1.append (List.Sublist.refl _), fun x hx => ?_⟩
      rcases List.mem_append.1 hx with h | h
      · exact List.mem_append_left _ (h2 x h)
      · exact List.mem_append_right _ h
    · rw [if_neg hk, List.append_nil]
      refine ⟨h1.trans (List.sublist_append_left _ _), fun x hx => ?_⟩
      rcases List.mem_append.1 hx with h | h
      · exact h2 x h
      · rw [List.mem_singleton.1 h]
        have hm0 : 0 < m := by
          rcases Nat.eq_zero_or_pos m with e | e
          · subst e; simp [Lib.keeps] at hk
          · exact e
        have he : zs[m] = zs[m - 1] := by
          simp only [Lib.keeps] at hk
          have hg1 : zs.toArray[m - 1]! = zs[m - 1] := by simp [show m - 1 < zs.length by omega]
          rw [hg, hg1] at hk
          simp at hk
          omega
        rw [he]
        refine h2 _ ?_
        have : (zs.take m)[m - 1]'(by simp; omega) = zs[m - 1] := by simp
        rw [← this]
        exact List.getElem_mem _
def levels (hs : List Int) : List Int := Lib.compact (hs.mergeSort fun x y => decide (x ≤ y))
theorem levels_mem (hs : List Int) (x : Int) : x ∈ levels hs ↔ x ∈ hs := by
  obtain ⟨h1, h2⟩ := compact_parts (hs.mergeSort fun x y => decide (x ≤ y)) _ (Nat.le_refl _)
  rw [List.take_length] at h1 h2
  have hp := List.mergeSort_perm hs (fun x y => decide (x ≤ y))
  exact ⟨fun h => hp.mem_iff.1 (h1.subset h), fun h => h2 x (hp.mem_iff.2 h)⟩
theorem levels_sorted (hs : List Int) : (levels hs).Pairwise (fun a b => a ≤ b) := by
  obtain ⟨h1, _⟩ := compact_parts (hs.mergeSort fun x y => decide (x ≤ y)) _ (Nat.le_refl _)
  rw [List.take_length] at h1
  have hs' := List.pairwise_mergeSort (le := fun x y : Int => decide (x ≤ y)) (by intro a b c; simp; omega) (by intro a b; simp; omega) hs
  exact (hs'.imp (fun h => by simpa using h)).sublist h1
theorem levels_len (hs : List Int) : (levels hs).length ≤ hs.length := by
  obtain ⟨h1, _⟩ := compact_parts (hs.mergeSort fun x y => decide (x ≤ y)) _ (Nat.le_refl _)
  rw [List.take_length] at h1
  exact Nat.le_trans h1.length_le (by rw [List.length_mergeSort]; exact Nat.le_refl _)
theorem pos_take_succ {l : List Int} (h : l.Nodup) (c : Int) (i : Nat) (hi : i < l.length) : pos (l.take (i + 1)) c = if l[i] = c then (i : Int) else pos (l.take i) c := by
  have hn : (l.take (i + 1)).Nodup := h.sublist (List.take_sublist _ _)
  rw [List.take_succ_eq_append_getElem hi] at hn ⊢
  by_cases e : l[i] = c
  · rw [if_pos e]
    have hc : c ∉ l.take i := by
      rw [← e]
      intro hm
      exact (List.nodup_append.1 hn).2.2 _ hm _ (List.mem_singleton.2 rfl) rfl
    unfold pos
    rw [if_pos (by simp [e]), List.idxOf_append, if_neg hc, e]
    simp
    omega
  · rw [if_neg e]
    unfold pos
    have hm : c ∈ l.take i ++ [l[i]] ↔ c ∈ l.take i := by
      rw [List.mem_append, List.mem_singleton]
      exact ⟨fun h => h.resolve_right (fun h => e h.symm), Or.inl⟩
    by_cases hc : c ∈ l.take i
    · rw [if_pos (hm.2 hc), if_pos hc, List.idxOf_append, if_pos hc]
    · rw [if_neg (fun h => hc (hm.1 h)), if_neg hc]
theorem pos_lt_len {l : List Int} {c : Int} : pos l c < l.length ∧ -1 ≤ pos l c ∧ (0 ≤ pos l c ↔ c ∈ l) := by
  unfold pos
  by_cases h : c ∈ l
  · rw [if_pos h]
    have := List.idxOf_lt_length_of_mem h
    exact ⟨by omega, by omega, ⟨fun _ => h, fun _ => by omega⟩⟩
  · rw [if_neg h]
    exact ⟨by omega, by omega, ⟨fun h' => absurd h' (by omega), fun h' => absurd h' h⟩⟩
theorem low_l0 (hs : List Int) (level i j : Int) (hl : hs.length ≤ 1048576) (Y0 : List (List Int)) (Y1 : List S52) (r : List Int) (h : Ev (fun k => spec_l11Low.l0 k i j (pos (und hs level) i) (pos (und hs level) j) ((und hs level).length : Int) (und hs level) [] Y0 Y1) r) :
    Ev (fun k => spec_l11Low.l0 k i j (-1) (-1) 0 (und hs level) [] Y0 Y1) r := by
  have hR := und_rising hs level
  have hlen := hR.few
  have hN := hR.nodup
  have := Ev.iter (und hs level).length (fun k p => spec_l11Low.l0 k i j (pos ((und hs level).take p) i) (pos ((und hs level).take p) j) (p : Int) (und hs level) [] Y0 Y1) (fun _ => r) (by
    intro p hp h
    rw [pos_take_succ hN i p hp, pos_take_succ hN j p hp] at h
    refine Ev.step (fun k => by rw [spec_l11Low.l0, if_pos (by omega), if_pos (by omega), rd_at hp, wi (by omega)]) ?_
    by_cases e1 : (und hs level)[p] = i <;> by_cases e2 : (und hs level)[p] = j
    · rw [if_pos e1, if_pos e2] at h; exact Ev.congr (fun k => by rw [if_pos e1, if_pos e2]) h
    · rw [if_pos e1, if_neg e2] at h; exact Ev.congr (fun k => by rw [if_pos e1, if_neg e2]) h
    · rw [if_neg e1, if_pos e2] at h; exact Ev.congr (fun k => by rw [if_neg e1, if_pos e2]) h
    · rw [if_neg e1, if_neg e2] at h; exact Ev.congr (fun k => by rw [if_neg e1, if_neg e2]) h) (by simpa using h) 0 (by omega)
  simpa [pos] using this
theorem low_l1 (l w : List Int) (hl : l.length ≤ 1048576) (hw : w.length ≤ 1048577) (hr : ∀ c ∈ w, 0 ≤ c ∧ c < (l.length : Int)) : Ev (fun k => spec_l11Low.l1 k l [] 0 w) (w.map (rd l)) := by
  have := Ev.iter w.length (fun k p => spec_l11Low.l1 k l ((w.take p).map (rd l)) (p : Int) w) (fun _ => w.map (rd l)) (by
    intro p hp h
    have hc := hr _ (List.getElem_mem hp)
    refine Ev.step (fun k => by rw [spec_l11Low.l1, if_pos (by omega), if_pos (by omega), rd_at hp, if_pos hc.1, if_pos hc.2, if_pos (by simp; omega), wi (by omega)]) ?_
    rw [List.take_succ_eq_append_getElem hp, List.map_append] at h
    exact h) (Ev.step (fun k => by rw [spec_l11Low.l1, if_neg (by omega), List.take_length]) (Ev.now _)) 0 (by omega)
  simpa using this
theorem lowWay_l1 (l w : List Int) (hl : l.length ≤ 1048576) (hw : w.length ≤ 1048577) (hr : ∀ c ∈ w, 0 ≤ c ∧ c < (l.length : Int)) : Ev (fun k => impl_Space_lowWay.l1 k l w (w.length : Int) 0) (w.map (rd l), true) := by
  have := Ev.iter w.length (fun k p => impl_Space_lowWay.l1 k l ((w.map (rd l)).take p ++ w.drop p) (w.length : Int) (p : Int)) (fun _ => (w.map (rd l), true)) (by
    intro p hp h
    have hc := hr _ (List.getElem_mem hp)
    have hlen : ((w.map (rd l)).take p ++ w.drop p).length = w.length := by simp; omega
    have hat : rd ((w.map (rd l)).take p ++ w.drop p) (p : Int) = w[p] := by
      rw [rd_at (by omega), List.getElem_append_right (by simp; omega)]
      simp [show min p w.length = p by omega]
    have hst := write_step w (w.map (rd l)) p hp (by simp)
    refine Ev.step (fun k => by rw [impl_Space_lowWay.l1, if_pos (by omega), if_pos (by omega), if_pos (by omega), hat, if_pos hc.1, if_pos hc.2, Int.toNat_natCast, wi (by omega)]) ?_
    rw [← hst] at h
    simpa using h) (Ev.step (fun k => by rw [impl_Space_lowWay.l1, if_neg (by omega), List.drop_length, List.append_nil, List.take_of_length_le (by simp)]) (Ev.now _)) 0 (by omega)
  simpa using this
theorem low_both (st : List (List Int)) (sp : List S52) (hs : List Int) (i j : Int) (hv : okSpace st sp = true) (hr : ∀ x ∈ st, x.length ≤ 1048576) (hl : hs.length = st.length) (level : Int) :
    ∃ w : List Int, Ev (fun k => spec_l11Low.f k st sp hs i j level) w ∧ w.length ≤ 1048577 ∧
      (∀ (D : List Int) (idx : Nat) (r : List Int × Bool), idx < D.length → D.length ≤ 1048576 → rd D (idx : Int) = level →
        (w = [] → Ev (fun k => impl_Space_lowWay.l0 k hs i j D (D.length : Int) ((idx + 1 : Nat) : Int) st sp) r → Ev (fun k => impl_Space_lowWay.l0 k hs i j D (D.length : Int) (idx : Int) st sp) r) ∧
        (w ≠ [] → Ev (fun k => impl_Space_lowWay.l0 k hs i j D (D.length : Int) (idx : Int) st sp) (w, true))) ∧
      (w ≠ [] ↔ i ∈ und hs level ∧ j ∈ und hs level ∧ Reach (lists (und hs level).length (ind sp (und hs level))) (pos (und hs level) j) (pos (und hs level) i)) := by
  obtain ⟨hn, hm, ok⟩ := okSpace_steps hv
  have hR : Rising st.length (und hs level) := hl ▸ und_rising hs level
  have hlen := hR.few
  have hU := l11Under_at hs level (by omega)
  have hB := below_at hs level (by omega)
  have hI := InducedSpace_at st sp (und hs level) hv hr hR
  have hJ := l2Induced_at st sp (und hs level) (by omega) (by omega) ok hr hR
  obtain ⟨si, hsi, hsi2⟩ := search_at hR (by omega) i
  obtain ⟨sj, hsj, hsj2⟩ := search_at hR (by omega) j
  obtain ⟨pi1, pi2, pi3⟩ := @pos_lt_len (und hs level) i
  obtain ⟨pj1, pj2, pj3⟩ := @pos_lt_len (und hs level) j
  have okI := ind_ok ok hR
  have hilen := ind_len sp (und hs level)
  have spec0 : ∀ w, Ev (fun k => spec_l11Low.l0 k i j (pos (und hs level) i) (pos (und hs level) j) ((und hs level).length : Int) (und hs level) [] ((und hs level).map (rd_L1 st)) (ind sp (und hs level))) w → Ev (fun k => spec_l11Low.f k st sp hs i j level) w := fun w h =>
    Ev.bind hU (Ev.bind hJ (low_l0 hs level i j (by omega) _ _ w h))
  have impl0 : ∀ (D : List Int) (idx : Nat) (r : List Int × Bool) (c : Bool), idx < D.length → D.length ≤ 1048576 → rd D (idx : Int) = level → (!(decide (0 ≤ pos (und hs level) i) && decide (0 ≤ pos (und hs level) j))) = c →
      Ev (fun k => impl_Space_lowWay.j1 k hs i j (und hs level) si sj D (D.length : Int) (idx : Int) c st sp ((und hs level).map (rd_L1 st)) (ind sp (und hs level))) r → Ev (fun k => impl_Space_lowWay.l0 k hs i j D (D.length : Int) (idx : Int) st sp) r := by
    intro D idx r c h1 h2 h3 h4 h
    refine Ev.step (fun k => by rw [impl_Space_lowWay.l0, if_pos (by omega), if_pos (by omega), if_pos (by omega), h3]) ?_
    refine Ev.bind hB (Ev.bind hI (Ev.bind hsi (Ev.bind hsj ?_)))
    subst h4
    by_cases e : 0 ≤ pos (und hs level) i
    · refine Ev.congr (fun k => by rw [if_pos (by simpa using e)]) ?_
      simpa [e] using h
    · refine Ev.congr (fun k => by rw [if_neg (by simpa using e)]) ?_
      simpa [e] using h
  by_cases hij : 0 ≤ pos (und hs level) i ∧ 0 ≤ pos (und hs level) j
  · obtain ⟨w, w1, w2, w3, w4, w5⟩ := walk_both ((und hs level).map (rd_L1 st)) (ind sp (und hs level)) (pos (und hs level) i) (pos (und hs level) j) (by simp; omega) (by omega) (by simpa using okI) hij.1 (by simpa using pi1) hij.2 (by simpa using pj1)
    simp only [List.length_map] at w3 w5
    refine ⟨w.map (rd (und hs level)), spec0 _ ?_, by simpa using w4, ?_, ?_⟩
    · refine Ev.step (fun k => by rw [spec_l11Low.l0, if_neg (by omega), if_neg (by omega)]) ?_
      refine Ev.step (fun k => by rw [spec_l11Low.j1, if_neg (by simp; omega)]) ?_
      exact Ev.bind w1 (low_l1 _ w (by omega) w4 w5)
    · intro D idx r h1 h2 h3
      have hsi3 := hsi2 hij.1
      have hsj3 := hsj2 hij.2
      constructor
      · intro hw h
        have hw' : w = [] := by simpa using hw
        subst hw'
        refine impl0 D idx r false h1 h2 h3 (by simp [hij.1, hij.2]) ?_
        refine Ev.step (fun k => by rw [impl_Space_lowWay.j1, if_neg (by simp), hsi3, hsj3]) ?_
        refine Ev.bind w2 ?_
        refine Ev.congr (fun k => by rw [if_neg (by simp), wi (by omega)]) h
      · intro hw
        have hw' : w ≠ [] := by simpa using hw
        refine impl0 D idx _ false h1 h2 h3 (by simp [hij.1, hij.2]) ?_
        refine Ev.step (fun k => by rw [impl_Space_lowWay.j1, if_neg (by simp), hsi3, hsj3]) ?_
        refine Ev.bind w2 ?_
        refine Ev.congr (fun k => by rw [if_pos (by simpa using hw')]) ?_
        exact lowWay_l1 _ w (by omega) w4 w5
    · rw [← pi3, ← pj3]
      constructor
      · intro h; exact ⟨hij.1, hij.2, w3.1 (by simpa using h)⟩
      · rintro ⟨_, _, h⟩; have := w3.2 h; simpa using this
  · refine ⟨[], spec0 _ ?_, by simp, ?_, ?_⟩
    · refine Ev.step (fun k => by rw [spec_l11Low.l0, if_neg (by omega)]) ?_
      by_cases e : pos (und hs level) i < 0
      · refine Ev.congr (fun k => by rw [if_pos e]) ?_
        exact Ev.step (fun k => by rw [spec_l11Low.j1, if_pos rfl]) (Ev.now _)
      · refine Ev.congr (fun k => by rw [if_neg e]) ?_
        exact Ev.step (fun k => by rw [spec_l11Low.j1, if_pos (by simp; omega)]) (Ev.now _)
    · intro D idx r h1 h2 h3
      constructor
      · intro _ h
        refine impl0 D idx r true h1 h2 h3 (by simp; omega) ?_
        exact Ev.step (fun k => by rw [impl_Space_lowWay.j1, if_pos rfl, wi (by omega)]) h
      · intro h; exact absurd rfl h
    · rw [← pi3, ← pj3]
      exact ⟨fun h => absurd rfl h, fun h => absurd ⟨h.1, h.2.1⟩ hij⟩
end Go.Proofs.Ytiimbndjggebdaa.Q
namespace Go.Proofs.Ytiimbndjggebdaa.Q
open Go.RowKit Go.Proofs.YtiimbndjggebdaaW.PrintWords Go.Proofs.YtiimbndjggebdaaW.PrintLast Go.Proofs.YtiimbndjggebdaaW.PrintMore
set_option linter.unusedVariables false
set_option linter.unusedSimpArgs false
theorem reach_symm {n : Nat} {sp : List S52} (N : Nbs n (lists n sp)) {a b : Int} (h : Reach (lists n sp) a b) (h0 : 0 ≤ a) (h1 : a < n) : Reach (lists n sp) b a := by
  induction h with
  | refl => exact Reach.refl _
  | step c hab hc ih =>
    have hb := N.reach h0 h1 hab
    have hcr := N.rng _ hb.1 hb.2 _ hc
    rw [rd_lists _ _ _ hb.1 hb.2] at hc
    exact Reach.trans (Reach.step _ (Reach.refl c) (by rw [rd_lists _ _ _ hcr.1 hcr.2]; exact (adj_symm sp _ _).1 hc)) ih
theorem rd_pos {n : Nat} {l : List Int} (h : Rising n l) {c : Int} (hp : 0 ≤ pos l c) : rd l (pos l c) = c := by
  obtain ⟨j, hj, e1, e2⟩ := pos_some h hp
  rw [e2, rd_at hj, e1]
theorem reach_ind {n : Nat} {sp : List S52} {l : List Int} (hn : n ≤ 1048576) (hm : sp.length ≤ 1048576) (ok : StepsOK n sp) (hl : Rising n l) {a b : Int} (h : Reach (lists l.length (ind sp l)) a b) (h0 : 0 ≤ a) (h1 : a < l.length) : Reach (lists n sp) (rd l a) (rd l b) := by
  have hlen := hl.few
  have N := nbs_of (by omega : l.length ≤ 1048576) (Nat.le_trans (ind_len sp l) hm) (ind_ok ok hl)
  induction h with
  | refl => exact Reach.refl _
  | step c hab hc ih =>
    rename_i b'
    have hb := N.reach h0 h1 hab
    rw [rd_lists _ _ _ hb.1 hb.2, adj_mem] at hc
    obtain ⟨s, hs, hsc⟩ := hc
    obtain ⟨s0, hs0, e⟩ := List.mem_filterMap.1 hs
    split at e
    case isFalse => cases e
    case isTrue hp =>
    injection e with e
    subst e
    obtain ⟨bj, hbj⟩ := Int.eq_ofNat_of_zero_le hb.1
    have hrb := hl.rng (rd l b') (by rw [hbj]; exact rd_mem (by omega))
    refine Reach.step _ ih ?_
    rw [rd_lists _ _ _ hrb.1 hrb.2, adj_mem]
    refine ⟨s0, hs0, ?_⟩
    rcases hsc with ⟨e1, e2⟩ | ⟨e1, e2⟩
    · left; dsimp only at e1 e2; rw [← e1, ← e2]; exact ⟨(rd_pos hl hp.2).symm, (rd_pos hl hp.1).symm⟩
    · right; dsimp only at e1 e2; rw [← e1, ← e2]; exact ⟨(rd_pos hl hp.1).symm, (rd_pos hl hp.2).symm⟩
def all (n : Nat) : List Int := (List.range n).map (fun j : Nat => (j : Int))
theorem und_all {hs : List Int} {level : Int} (h : ∀ x ∈ hs, x ≤ level) : und hs level = all hs.length := by
  unfold und undT all
  rw [List.filter_eq_self.2 (fun j hj => ?_)]
  have hj' : j < hs.length := by simpa using hj
  rw [rd_at hj']
  exact decide_eq_true (h _ (List.getElem_mem hj'))
theorem all_rising (n : Nat) : Rising n (all n) := by
  have := und_rising (List.replicate n 0) 0
  rw [und_all (fun x hx => by rw [List.eq_of_mem_replicate hx]; exact Int.le_refl _), List.length_replicate] at this
  exact this
theorem pos_all {n : Nat} {c : Int} (h0 : 0 ≤ c) (h1 : c < n) : pos (all n) c = c := by
  obtain ⟨j, rfl⟩ := Int.eq_ofNat_of_zero_le h0
  have hj : j < (all n).length := by simp [all]; omega
  have := pos_at (all_rising n) hj
  simpa [all] using this
theorem ind_all {n : Nat} {sp : List S52} (ok : StepsOK n sp) : ind sp (all n) = sp := by
  unfold ind
  have : ∀ s ∈ sp, (if pos (all n) s.f0 ≥ 0 ∧ pos (all n) s.f1 ≥ 0 then some (⟨pos (all n) s.f0, pos (all n) s.f1⟩ : S52) else none) = some s := by
    intro s hs
    have := ok.rng s hs
    rw [pos_all (by omega) (by omega), pos_all (by omega) (by omega), if_pos (by omega)]
  have gen : ∀ (l : List S52) (f : S52 → Option S52), (∀ s ∈ l, f s = some s) → l.filterMap f = l := by
    intro l f
    induction l with
    | nil => intro _; rfl
    | cons a l ih =>
      intro h
      rw [List.filterMap_cons, h a List.mem_cons_self]
      simp only [ih (fun s hs => h s (List.mem_cons_of_mem _ hs))]
  exact gen sp _ this
theorem exists_most : ∀ l : List Int, l ≠ [] → ∃ m ∈ l, ∀ x ∈ l, x ≤ m
  | [], h => absurd rfl h
  | [a], _ => ⟨a, by simp, by simp⟩
  | a :: b :: l, _ => by
    obtain ⟨m, hm, hx⟩ := exists_most (b :: l) (by simp)
    by_cases h : m ≤ a
    · refine ⟨a, by simp, fun x hxm => ?_⟩
      rcases List.mem_cons.1 hxm with e | e
      · omega
      · have := hx x e; omega
    · refine ⟨m, List.mem_cons_of_mem _ hm, fun x hxm => ?_⟩
      rcases List.mem_cons.1 hxm with e | e
      · omega
      · exact hx x e
def best (W : Int → List Int) (hs : List Int) : Nat → Int
  | 0 => -1
  | k + 1 => if (best W hs k < 0 ∨ rd hs (k : Int) < best W hs k) ∧ W (rd hs (k : Int)) ≠ [] then rd hs (k : Int) else best W hs k
theorem best_spec (W : Int → List Int) (hs : List Int) (h0 : ∀ k, k < hs.length → 0 ≤ rd hs (k : Int)) : ∀ p, p ≤ hs.length → (best W hs p = -1 ∧ ∀ k, k < p → W (rd hs (k : Int)) = []) ∨ (∃ k, k < p ∧ best W hs p = rd hs (k : Int) ∧ W (rd hs (k : Int)) ≠ [] ∧ ∀ q, q < p → W (rd hs (q : Int)) ≠ [] → best W hs p ≤ rd hs (q : Int)) := by
  intro p
  induction p with
  | zero => intro _; exact .inl ⟨rfl, fun k hk => by omega⟩
  | succ p ih =>
    intro hp
    have hpp := h0 p (by omega)
    have hcase : ∀ q, q < p + 1 → q < p ∨ q = p := fun q hq => by omega
    by_cases hw : W (rd hs (p : Int)) = []
    · have e : best W hs (p + 1) = best W hs p := by rw [best, if_neg (fun h => h.2 hw)]
      rw [e]
      rcases ih (by omega) with ⟨h1, h2⟩ | ⟨k, hk, h1, h2, h3⟩
      · exact .inl ⟨h1, fun k hk => by
          rcases hcase k hk with h | rfl
          · exact h2 k h
          · exact hw⟩
      · exact .inr ⟨k, by omega, h1, h2, fun q hq hq2 => by
            rcases hcase q hq with h | rfl
            · exact h3 q h hq2
            · exact absurd hw hq2⟩
    · rcases ih (by omega) with ⟨h1, h2⟩ | ⟨k, hk, h1, h2, h3⟩
      · have e : best W hs (p + 1) = rd hs (p : Int) := by rw [best, if_pos ⟨.inl (by omega), hw⟩]
        rw [e]
        exact .inr ⟨p, by omega, rfl, hw, fun q hq hq2 => by
            rcases hcase q hq with h | rfl
            · exact absurd (h2 q h) hq2
            · exact Int.le_refl _⟩
      · have hk0 := h0 k (by omega)
        by_cases hlt : rd hs (p : Int) < best W hs p
        · have e : best W hs (p + 1) = rd hs (p : Int) := by rw [best, if_pos ⟨.inr hlt, hw⟩]
          rw [e]
          exact .inr ⟨p, by omega, rfl, hw, fun q hq hq2 => by
            rcases hcase q hq with h | rfl
            · have := h3 q h hq2; omega
            · exact Int.le_refl _⟩
        · have e : best W hs (p + 1) = best W hs p := by rw [best, if_neg (fun h => by omega)]
          rw [e]
          exact .inr ⟨k, by omega, h1, h2, fun q hq hq2 => by
            rcases hcase q hq with h | rfl
            · exact h3 q h hq2
            · omega⟩
theorem peak_at (st : List (List Int)) (sp : List S52) (hs : List Int) (i j : Int) (W : Int → List Int) (hW : ∀ level, Ev (fun k => spec_l11Low.f k st sp hs i j level) (W level)) (hl : hs.length ≤ 1048576) : Ev (fun k => spec_l11Peak.f k st sp hs i j) (best W hs hs.length) := by
  have := Ev.iter hs.length (fun k p => spec_l11Peak.l0 k hs i j (best W hs p) (p : Int) st sp) (fun _ => best W hs hs.length) (by
    intro p hp h
    refine Ev.step (fun k => by rw [spec_l11Peak.l0, if_pos (by omega)]) ?_
    rw [best] at h
    by_cases e : best W hs p < 0
    · refine Ev.congr (fun k => by rw [if_pos e, if_pos (by omega), wi (by omega)]) (Ev.bind (hW _) ?_)
      by_cases hw : W (rd hs (p : Int)) = []
      · rw [if_neg (fun h => h.2 hw)] at h
        exact Ev.congr (fun k => by rw [if_neg (by rw [hw]; simp)]) h
      · rw [if_pos ⟨.inl e, hw⟩] at h
        exact Ev.congr (fun k => by rw [if_pos (by have := List.length_pos_iff.2 hw; omega)]) h
    · by_cases hlt : rd hs (p : Int) < best W hs p
      · refine Ev.congr (fun k => by rw [if_neg e, if_pos (by omega), if_pos hlt, wi (by omega)]) (Ev.bind (hW _) ?_)
        by_cases hw : W (rd hs (p : Int)) = []
        · rw [if_neg (fun h => h.2 hw)] at h
          exact Ev.congr (fun k => by rw [if_neg (by rw [hw]; simp)]) h
        · rw [if_pos ⟨.inr hlt, hw⟩] at h
          exact Ev.congr (fun k => by rw [if_pos (by have := List.length_pos_iff.2 hw; omega)]) h
      · rw [if_neg (fun h => by omega)] at h
        exact Ev.congr (fun k => by rw [if_neg e, if_pos (by omega), if_neg hlt, wi (by omega)]) h) (Ev.step (fun k => by rw [spec_l11Peak.l0, if_neg (by omega)]) (Ev.now _)) 0 (by omega)
  exact this
end Go.Proofs.Ytiimbndjggebdaa.Q
namespace Go.Proofs.Ytiimbndjggebdaa.Q
open Go.RowKit Go.Proofs.YtiimbndjggebdaaW.PrintWords Go.Proofs.YtiimbndjggebdaaW.PrintLast Go.Proofs.YtiimbndjggebdaaW.PrintMore
set_option linter.unusedVariables false
set_option linter.unusedSimpArgs false
def Path (A : Int → Int → Prop) : Int → List Int → Int → Prop
  | v, [], b => v = b
  | v, c :: t, b => A v c ∧ Path A c t b
theorem Path.last {A : Int → Int → Prop} : ∀ {t : List Int} {v b : Int}, Path A v t b → b ∈ v :: t
  | [], v, b, h => by simp only [Path] at h; simp [h]
  | c :: t, v, b, h => List.mem_cons_of_mem _ (Path.last h.2)
theorem walkp_l0 {n : Nat} {L : List (List Int)} {b : Int} {t : List Int} (N : Nbs n L) (sym : ∀ u v : Int, 0 ≤ u → u < n → 0 ≤ v → v < n → v ∈ rd_L1 L u → u ∈ rd_L1 L v) (F : Far n L b t) (hb0 : 0 ≤ b) (hb1 : b < n) : ∀ (d : Nat) (v : Int) (out : List Int), 0 ≤ v → v < n → rd t v = (d : Int) → out.length + d < 17592186044416 → (∀ c ∈ out, 0 ≤ c ∧ c < (n : Int)) →
    EvPP (γ := Nat) (fun k => spec_l2Walk.l0 k v b out L t) (fun k => impl_Space_firstWay.l0 k v b out L t) (fun r s => s = (r, true) ∧ r.length = out.length + d ∧ (∀ c ∈ r, 0 ≤ c ∧ c < (n : Int)) ∧ ∃ tl, r = out ++ tl ∧ Path (fun u c => c ∈ rd_L1 L u) v tl b) := by
  intro d
  have hfew := N.few
  induction d with
  | zero =>
    intro v out h0 h1 hv hl ho
    have hvb : v = b := (F.zero v h0 h1).1 (by simpa using hv)
    exact EvPP.stepL (fun k => by rw [spec_l2Walk.l0, if_pos hvb]) (EvPP.stepR (fun k => by rw [impl_Space_firstWay.l0, if_pos hvb]) (EvPP.now _ _ ⟨rfl, rfl, ho, [], by simp, hvb⟩))
  | succ d ih =>
    intro v out h0 h1 hv hl ho
    have hvb : ¬ v = b := fun e => by have := (F.zero v h0 h1).2 e; omega
    obtain ⟨u, hu0, hu1, hu2, hu3, hu4⟩ := F.par v h0 h1 (by omega)
    have huv := sym u v hu0 hu1 h0 h1 hu2
    have hrow := N.row v
    have hlow := F.low v h0 h1
    refine EvPP.stepL (fun k => by rw [spec_l2Walk.l0, if_neg hvb]) ?_
    refine EvPP.stepR (fun k => by rw [impl_Space_firstWay.l0, if_neg hvb, if_pos h0, if_pos (by rw [N.len]; exact h1)]) ?_
    have inner : ∀ (e p : Nat), (rd_L1 L v).length - p = e → (∃ q, p ≤ q ∧ q < (rd_L1 L v).length ∧ rd t (rd (rd_L1 L v) (q : Int)) = (d : Int)) → EvPP (γ := Nat) (fun k => spec_l2Walk.l1 k v b out (p : Int) L t) (fun k => impl_Space_firstWay.l1 k v b out L t (rd_L1 L v) ((rd_L1 L v).length : Int) (p : Int)) (fun r s => s = (r, true) ∧ r.length = out.length + (d + 1) ∧ (∀ c ∈ r, 0 ≤ c ∧ c < (n : Int)) ∧ ∃ tl, r = out ++ tl ∧ Path (fun u c => c ∈ rd_L1 L u) v tl b) := by
      intro e
      induction e with
      | zero => rintro p he ⟨q, hq1, hq2, hq3⟩; omega
      | succ e ihe =>
        rintro p he ⟨q, hq1, hq2, hq3⟩
        have hpl : p < (rd_L1 L v).length := by omega
        have hcm := rd_mem hpl
        have hcr := N.rng _ h0 h1 _ hcm
        have hw : wrap64 (rd t v - 1) = (d : Int) := by rw [hv]; unfold wrap64; omega
        refine EvPP.stepL (fun k => by rw [spec_l2Walk.l1, if_pos h0, if_pos (by rw [N.len]; exact h1), if_pos (by omega), if_pos (by omega), if_pos hcr.1, if_pos (by rw [F.len]; exact hcr.2), if_pos (by rw [F.len]; exact h1), hw]) ?_
        refine EvPP.stepR (fun k => by rw [impl_Space_firstWay.l1, if_pos (by omega), if_pos (by omega), if_pos (by omega), if_pos hcr.1, if_pos (by rw [F.len]; exact hcr.2), if_pos h0, if_pos (by rw [F.len]; exact h1), hw]) ?_
        by_cases hc : rd t (rd (rd_L1 L v) (p : Int)) = (d : Int)
        · obtain ⟨r, s, e1, e2, e3, e4, e5, tl, e6, e7⟩ := ih (rd (rd_L1 L v) (p : Int)) (out ++ [rd (rd_L1 L v) (p : Int)]) hcr.1 hcr.2 hc (by simp; omega) (by
            intro c hc'
            rcases List.mem_append.1 hc' with h | h
            · exact ho c h
            · rw [List.mem_singleton.1 h]; exact hcr)
          refine ⟨r, s, Ev.congr (fun k => ?_) e1, Ev.congr (fun k => ?_) e2, e3, by rw [e4]; simp; omega, e5, rd (rd_L1 L v) (p : Int) :: tl, by rw [e6]; simp, hcm, e7⟩
          · rw [if_pos hc, if_pos (by omega)]
          · rw [if_pos hc, if_pos (by omega)]
        · obtain ⟨r, s, e1, e2, e3⟩ := ihe (p + 1) (by omega) ⟨q, by
            have : p ≠ q := fun e => by subst e; exact hc hq3
            omega, hq2, hq3⟩
          refine ⟨r, s, Ev.congr (fun k => ?_) e1, Ev.congr (fun k => ?_) e2, e3⟩
          · rw [if_neg hc, wi (by omega)]
          · rw [if_neg hc, wi (by omega)]
    obtain ⟨q, hq1, hq2⟩ := List.getElem_of_mem huv
    exact inner _ 0 rfl ⟨q, by omega, hq1, by rw [rd_at hq1, hq2]; omega⟩
theorem walkp_both (st : List (List Int)) (sp : List S52) (a b : Int) (hn : st.length ≤ 1048576) (hm : sp.length ≤ 1048576) (ok : StepsOK st.length sp) (ha0 : 0 ≤ a) (ha1 : a < st.length) (hb0 : 0 ≤ b) (hb1 : b < st.length) :
    ∃ w : List Int, Ev (fun k => spec_l2Walk.f k st sp a b) w ∧ Ev (fun k => impl_Space_firstWay.f k st sp a b) (w, decide (w ≠ [])) ∧ (w ≠ [] ↔ Reach (lists st.length sp) b a) ∧ w.length ≤ 1048577 ∧ (∀ c ∈ w, 0 ≤ c ∧ c < (st.length : Int)) ∧ (w ≠ [] → ∃ tl, w = a :: tl ∧ Path (fun u c => c ∈ rd_L1 (lists st.length sp) u) a tl b) := by
  have N := nbs_of hn hm ok
  obtain ⟨t, t1, t2, F⟩ := spread_both N hb0 hb1
  have hL := l2Lists_at st sp hn hm ok.rng
  have hR := roads_at st sp hn hm ok
  have hmem := F.mem a ha0 ha1
  have hlow := F.low a ha0 ha1
  by_cases hneg : rd t a < 0
  · refine ⟨[], ?_, ?_, ?_, by simp, by simp, fun h => absurd rfl h⟩
    · refine Ev.bind hL (Ev.bind t1 ?_)
      refine Ev.congr (fun k => by rw [if_pos ha0, if_pos (by rw [F.len]; exact ha1), if_pos hneg]) (Ev.now _)
    · refine Ev.bind hR (Ev.bind t2 ?_)
      refine Ev.congr (fun k => by rw [if_pos ha0, if_pos (by rw [F.len]; exact ha1), if_pos hneg]; rfl) (Ev.now _)
    · constructor
      · intro h; exact absurd rfl h
      · intro h; have := hmem.2 h; omega
  · obtain ⟨d, hd⟩ := Int.eq_ofNat_of_zero_le (show 0 ≤ rd t a by omega)
    obtain ⟨r, s, e1, e2, e3, e4, e5, tl, e6, e7⟩ := walkp_l0 N (fun u v hu0 hu1 hv0 hv1 h => by
      rw [rd_lists _ _ _ hu0 hu1] at h
      rw [rd_lists _ _ _ hv0 hv1]
      exact (adj_symm sp v u).1 h) F hb0 hb1 d a [a] ha0 ha1 hd (by simp; omega) (by intro c hc; rw [List.mem_singleton.1 hc]; exact ⟨ha0, ha1⟩)
    subst e3
    have hne : r ≠ [] := fun e => by rw [e] at e4; simp at e4; omega
    refine ⟨r, ?_, ?_, ⟨fun _ => hmem.1 (by omega), fun _ => hne⟩, by rw [e4]; simp; omega, e5, fun _ => ⟨tl, e6, e7⟩⟩
    · refine Ev.bind hL (Ev.bind t1 ?_)
      exact Ev.congr (fun k => by rw [if_pos ha0, if_pos (by rw [F.len]; exact ha1), if_neg hneg]) e1
    · refine Ev.bind hR (Ev.bind t2 ?_)
      rw [show decide (r ≠ []) = true from decide_eq_true hne]
      exact Ev.congr (fun k => by rw [if_pos ha0, if_pos (by rw [F.len]; exact ha1), if_neg hneg]) e2
theorem lowX_at (st : List (List Int)) (sp : List S52) (hs : List Int) (i j : Int) (hr : ∀ x ∈ st, x.length ≤ 1048576) (hl : hs.length ≤ 1048576) : ∃ e : Bool, Ev (fun k => spec_l11Ends.f k st sp hs i j) e ∧ (e = false → Ev (fun k => impl_LowWay.f k st sp hs i j) ([], false)) ∧
    (e = true → okHigh st sp hs = true ∧ ∃ (B : Int) (w : List Int), B ∈ hs ∧ Ev (fun k => spec_l11Peak.f k st sp hs i j) B ∧ Ev (fun k => spec_l11Low.f k st sp hs i j B) w ∧ w ≠ [] ∧ w.length ≤ 1048577 ∧ Ev (fun k => impl_LowWay.f k st sp hs i j) (w, true) ∧ ∀ level ∈ hs, level < B → Ev (fun k => spec_l11Low.f k st sp hs i j level) []) := by
  have hH := l11Heights_at st sp hs hr hl
  have hI := isHigh_at st sp hs hr
  have hS := l2Space_at st sp (fun x hx => by have := hr x hx; omega)
  by_cases hok : okHigh st sp hs = true
  case neg =>
    have hf : okHigh st sp hs = false := by simpa using hok
    rw [hf] at hH hI
    refine ⟨false, ?_, fun _ => ?_, fun h => by cases h⟩
    · exact Ev.bind hH (Ev.congr (fun k => by rw [if_neg (by simp)]) (Ev.now _))
    · exact Ev.bind hI (Ev.congr (fun k => by rw [if_neg (by simp)]) (Ev.now _))
  case pos =>
  rw [hok] at hH hI
  obtain ⟨hv, hload⟩ : okSpace st sp = true ∧ loadsOK st.length hs = true := by simpa [okHigh] using hok
  obtain ⟨hn, hm, ok⟩ := okSpace_steps hv
  rw [hv] at hS
  have hlen : hs.length = st.length := by
    simp only [loadsOK, Bool.and_eq_true, decide_eq_true_eq] at hload
    omega
  have hge : ∀ x ∈ hs, 0 ≤ x := by
    intro x hx
    simp only [loadsOK, Bool.and_eq_true, List.all_eq_true, decide_eq_true_eq] at hload
    exact (hload.1 x hx).1
  have hP : ∀ a : Int, Ev (fun k => spec_l2Place.f k st sp a) (decide (0 ≤ a) && decide (a < (st.length : Int))) := fun a => by
    refine Ev.bind hS (Ev.congr (fun k => by rw [if_pos rfl, wr (by omega) (by omega)]) ?_)
    by_cases e : a ≥ 0
    · refine Ev.congr (fun k => by rw [spec_l1In.f, if_pos e]) ?_
      have : (decide (0 ≤ a) && decide (a < (st.length : Int))) = decide (a ≤ (st.length : Int) - 1) := by
        rw [decide_eq_true (show 0 ≤ a from e), Bool.true_and]
        exact decide_eq_decide.2 (by omega)
      rw [this]
      exact Ev.now _
    · refine Ev.congr (fun k => by rw [spec_l1In.f, if_neg e]) ?_
      have : (decide (0 ≤ a) && decide (a < (st.length : Int))) = false := by rw [decide_eq_false (show ¬ 0 ≤ a from e), Bool.false_and]
      rw [this]
      exact Ev.now _
  have hQ : ∀ a : Int, impl_Space_isPlace.f st sp a = some (decide (0 ≤ a) && decide (a < (st.length : Int))) := fun a => by
    rw [impl_Space_isPlace.f, wr (by omega) (by omega), impl_between.f]
    by_cases e : a ≥ 0
    · rw [if_pos e, Option.bind_some, decide_eq_true (show 0 ≤ a from e), Bool.true_and]
      exact congrArg some (decide_eq_decide.2 (by omega))
    · rw [if_neg e, Option.bind_some, decide_eq_false (show ¬ 0 ≤ a from e), Bool.false_and]
  by_cases hpi : (decide (0 ≤ i) && decide (i < (st.length : Int))) = true
  case neg =>
    have hf : (decide (0 ≤ i) && decide (i < (st.length : Int))) = false := by simpa using hpi
    refine ⟨false, ?_, fun _ => ?_, fun h => by cases h⟩
    · refine Ev.bind hH (Ev.congr (fun k => by rw [if_pos rfl]) ?_)
      have h := hP i
      rw [hf] at h
      exact Ev.bind h (Ev.congr (fun k => by rw [if_neg (by simp)]) (Ev.now _))
    · exact Ev.bind hI (Ev.congr (fun k => by rw [if_pos rfl, hQ, hf, Option.bind_some, if_neg (by simp)]) (Ev.now _))
  case pos =>
  by_cases hpj : (decide (0 ≤ j) && decide (j < (st.length : Int))) = true
  case neg =>
    have hf : (decide (0 ≤ j) && decide (j < (st.length : Int))) = false := by simpa using hpj
    refine ⟨false, ?_, fun _ => ?_, fun h => by cases h⟩
    · refine Ev.bind hH (Ev.congr (fun k => by rw [if_pos rfl]) ?_)
      have h := hP i
      rw [hpi] at h
      refine Ev.bind h (Ev.congr (fun k => by rw [if_pos rfl]) ?_)
      have h := hP j
      rw [hf] at h
      exact Ev.bind h (Ev.congr (fun k => by rw [if_neg (by simp)]) (Ev.now _))
    · exact Ev.bind hI (Ev.congr (fun k => by rw [if_pos rfl, hQ, hpi, Option.bind_some, if_pos rfl, hQ, hf, Option.bind_some, if_neg (by simp)]) (Ev.now _))
  case pos =>
  have hi' : 0 ≤ i ∧ i < (st.length : Int) := by simpa using hpi
  have hj' : 0 ≤ j ∧ j < (st.length : Int) := by simpa using hpj
  have N := nbs_of (by omega) (by omega) ok
  obtain ⟨t, t1, _, F⟩ := spread_both N hi'.1 hi'.2
  have hD : Ev (fun k => spec_l2Dist.f k st sp i) t := Ev.bind (l2Lists_at st sp (by omega) (by omega) ok.rng) (Ev.bind t1 (Ev.now _))
  have hE : Ev (fun k => spec_l11Ends.f k st sp hs i j) (decide (rd t j ≥ 0)) := by
    refine Ev.bind hH (Ev.congr (fun k => by rw [if_pos rfl]) ?_)
    have h := hP i
    rw [hpi] at h
    refine Ev.bind h (Ev.congr (fun k => by rw [if_pos rfl]) ?_)
    have h := hP j
    rw [hpj] at h
    refine Ev.bind h (Ev.congr (fun k => by rw [if_pos rfl]) ?_)
    exact Ev.bind hD (Ev.congr (fun k => by rw [if_pos hj'.1, if_pos (by rw [F.len]; exact hj'.2)]) (Ev.now _))
  obtain ⟨W, hW⟩ := Classical.skolem.1 (fun level => low_both st sp hs i j hv hr hlen level)
  have hpk := peak_at st sp hs i j W (fun level => (hW level).1) hl
  have hlv := levels_len hs
  -- where a way lies low, one lies in the space; where one lies in the space, one lies low enough
  have hreach : ∀ level, W level ≠ [] → Reach (lists st.length sp) i j := fun level h => by
    obtain ⟨h1, h2, h3⟩ := (hW level).2.2.2.1 h
    have hR : Rising st.length (und hs level) := hlen ▸ und_rising hs level
    obtain ⟨pj1, _, pj3⟩ := @pos_lt_len (und hs level) j
    obtain ⟨_, _, pi3⟩ := @pos_lt_len (und hs level) i
    have := reach_ind (by omega) (by omega) ok hR h3 (pj3.2 h2) pj1
    rw [rd_pos hR (pj3.2 h2), rd_pos hR (pi3.2 h1)] at this
    exact reach_symm N this hj'.1 hj'.2
  have hfound : Reach (lists st.length sp) i j → ∃ level ∈ hs, W level ≠ [] := fun h => by
    obtain ⟨m, hm1, hm2⟩ := exists_most hs (fun e => by rw [e] at hlen; simp at hlen; omega)
    refine ⟨m, hm1, (hW m).2.2.2.2 ?_⟩
    rw [und_all hm2, hlen, ind_all ok, pos_all hi'.1 hi'.2, pos_all hj'.1 hj'.2]
    have hmem : ∀ c : Int, 0 ≤ c → c < (st.length : Int) → c ∈ all st.length := fun c h0 h1 => by
      obtain ⟨c, rfl⟩ := Int.eq_ofNat_of_zero_le h0
      exact List.mem_map.2 ⟨c, by simp; omega, rfl⟩
    have hal : (all st.length).length = st.length := by simp [all]
    rw [hal]
    exact ⟨hmem i hi'.1 hi'.2, hmem j hj'.1 hj'.2, reach_symm N h hi'.1 hi'.2⟩
  have hmemrd : ∀ x ∈ hs, ∃ k, k < hs.length ∧ rd hs (k : Int) = x := fun x hx => by
    obtain ⟨k, hk, e⟩ := List.getElem_of_mem hx
    exact ⟨k, hk, by rw [rd_at hk, e]⟩
  have hbest := best_spec W hs (fun k hk => hge _ (rd_mem hk)) hs.length (Nat.le_refl _)
  have hsome : Ev (fun k => slices_Compact_int_int.f hs) (levels hs) := Ev.congr (fun k => by rw [slices_Compact_int_int.f, if_pos (by omega)]; rfl) (Ev.now _)
  have loop : ∀ d idx : Nat, (levels hs).length - idx = d → idx ≤ (levels hs).length → (∀ p, p < idx → W (rd (levels hs) (p : Int)) = []) → Ev (fun k => impl_Space_lowWay.l0 k hs i j (levels hs) ((levels hs).length : Int) (idx : Int) st sp) (if best W hs hs.length = -1 then ([], false) else (W (best W hs hs.length), true)) := by
    intro d
    induction d with
    | zero =>
      intro idx hd hidx hno
      have hnone : ∀ x ∈ hs, W x = [] := fun x hx => by
        obtain ⟨p, hp, e⟩ := List.getElem_of_mem ((levels_mem hs x).2 hx)
        have := hno p (by omega)
        rwa [rd_at hp, e] at this
      have hb1 : best W hs hs.length = -1 := by
        rcases hbest with ⟨h1, _⟩ | ⟨k, hk, _, h2, _⟩
        · exact h1
        · exact absurd (hnone _ (rd_mem hk)) h2
      rw [if_pos hb1]
      exact Ev.step (fun k => by rw [impl_Space_lowWay.l0, if_neg (by omega)]) (Ev.now _)
    | succ d ih =>
      intro idx hd hidx hno
      have hlt : idx < (levels hs).length := by omega
      obtain ⟨h1, h2⟩ := (hW (rd (levels hs) (idx : Int))).2.2.1 (levels hs) idx (if best W hs hs.length = -1 then ([], false) else (W (best W hs hs.length), true)) hlt (by omega) rfl
      by_cases hw : W (rd (levels hs) (idx : Int)) = []
      · refine h1 hw (ih (idx + 1) (by omega) (by omega) (fun p hp => ?_))
        rcases (show p < idx ∨ p = idx by omega) with h | rfl
        · exact hno p h
        · exact hw
      · have hin : rd (levels hs) (idx : Int) ∈ hs := (levels_mem hs _).1 (rd_mem hlt)
        obtain ⟨k0, hk0, ek0⟩ := hmemrd _ hin
        have hb : best W hs hs.length = rd (levels hs) (idx : Int) := by
          rcases hbest with ⟨_, h3⟩ | ⟨k, hk, h3, h4, h5⟩
          · exact absurd (by rw [← ek0]; exact h3 k0 hk0) hw
          · have hle := h5 k0 hk0 (by rw [ek0]; exact hw)
            rw [ek0] at hle
            have hbin : best W hs hs.length ∈ levels hs := (levels_mem hs _).2 (by rw [h3]; exact rd_mem hk)
            obtain ⟨p, hp, ep⟩ := List.getElem_of_mem hbin
            rcases Nat.lt_trichotomy p idx with hpl | rfl | hpl
            · have := hno p hpl
              rw [rd_at hp, ep, h3] at this
              exact absurd this h4
            · rw [rd_at hp, ep]
            · have := (List.pairwise_iff_getElem.1 (levels_sorted hs)) idx p hlt hp hpl
              rw [ep] at this
              rw [rd_at hlt] at hle ⊢
              omega
        have hb0 : ¬ best W hs hs.length = -1 := by
          have := hge _ hin
          omega
        rw [if_neg hb0, hb]
        exact h2 hw
  have himpl : Ev (fun k => impl_LowWay.f k st sp hs i j) (if best W hs hs.length = -1 then ([], false) else (W (best W hs hs.length), true)) := by
    refine Ev.bind hI (Ev.congr (fun k => by rw [if_pos rfl, hQ, hpi, Option.bind_some, if_pos rfl, hQ, hpj, Option.bind_some, if_pos rfl]) ?_)
    refine Ev.bind (a := if best W hs hs.length = -1 then ([], false) else (W (best W hs hs.length), true)) ?_ (Ev.now _)
    exact Ev.bind hsome (loop _ 0 rfl (by omega) (fun p hp => by omega))
  by_cases hend : rd t j ≥ 0
  · have hre := (F.mem j hj'.1 hj'.2).1 hend
    obtain ⟨m, hm1, hm2⟩ := hfound hre
    have hb0 : ¬ best W hs hs.length = -1 := by
      obtain ⟨k0, hk0, ek0⟩ := hmemrd m hm1
      rcases hbest with ⟨_, h3⟩ | ⟨k, hk, h3, h4, h5⟩
      · exact absurd (by rw [← ek0]; exact h3 k0 hk0) hm2
      · have := hge _ (rd_mem hk); omega
    rw [if_neg hb0] at himpl
    rw [decide_eq_true hend] at hE
    refine ⟨true, hE, (fun h => by cases h), fun _ => ⟨hok, ?_⟩⟩
    rcases hbest with ⟨h1, _⟩ | ⟨k, hk, h3, h4, h5⟩
    · exact absurd h1 hb0
    · refine ⟨best W hs hs.length, W (best W hs hs.length), by rw [h3]; exact rd_mem hk, hpk, (hW _).1, by rw [h3]; exact h4, (hW _).2.1, himpl, fun level hlv2 hlt => ?_⟩
      have hnil : W level = [] := Classical.byContradiction fun hne => by
        obtain ⟨q, hq, eq⟩ := hmemrd level hlv2
        have := h5 q hq (by rw [eq]; exact hne)
        omega
      have := (hW level).1
      rwa [hnil] at this
  · have hnone : ∀ level, W level = [] := fun level => Classical.byContradiction fun h => hend ((F.mem j hj'.1 hj'.2).2 (hreach level h))
    have hb1 : best W hs hs.length = -1 := by
      rcases hbest with ⟨h1, _⟩ | ⟨k, hk, _, h2, _⟩
      · exact h1
      · exact absurd (hnone _) h2
    rw [if_pos hb1] at himpl
    rw [decide_eq_false hend] at hE
    exact ⟨false, hE, fun _ => himpl, fun h => by cases h⟩
end Go.Proofs.Ytiimbndjggebdaa.Q
namespace Go.Proofs.Ytiimbndjggebdaa.Q
open Go.RowKit Go.Proofs.YtiimbndjggebdaaW.PrintWords Go.Proofs.YtiimbndjggebdaaW.PrintLast Go.Proofs.YtiimbndjggebdaaW.PrintMore
set_option linter.unusedVariables false
set_option linter.unusedSimpArgs false
theorem Ev.one {α : Type} {g : Nat → Option α} {r s : α} (h : Ev g r) (k : Ev g s) : r = s := by
  obtain ⟨K, h⟩ := h
  obtain ⟨M, k⟩ := k
  have h1 := h (max K M) (Nat.le_max_left _ _)
  rw [k (max K M) (Nat.le_max_right _ _)] at h1
  exact (Option.some.inj h1).symm
theorem cmpOr_at (a b : Int) : Ev (fun k => cmp_Or_int.f k [a, b]) (if a = 0 then b else a) := by
  by_cases h : a = 0
  · rw [if_pos h]
    by_cases h2 : b = 0
    · refine Ev.step (fun k => by rw [cmp_Or_int.f, cmp_Or_int.l0, if_pos (by simp), if_pos (by omega), if_pos (by simp), if_pos (by simpa [rd] using h), w64_1]) ?_
      refine Ev.step (fun k => by rw [cmp_Or_int.l0, if_pos (by simp), if_pos (by omega), if_pos (by simp), if_pos (by simpa [rd] using h2), w64_2]) ?_
      refine Ev.step (fun k => by rw [cmp_Or_int.l0, if_neg (by simp)]) ?_
      rw [h2]
      exact Ev.now _
    · refine Ev.step (fun k => by rw [cmp_Or_int.f, cmp_Or_int.l0, if_pos (by simp), if_pos (by omega), if_pos (by simp), if_pos (by simpa [rd] using h), w64_1]) ?_
      refine Ev.step (fun k => by rw [cmp_Or_int.l0, if_pos (by simp), if_pos (by omega), if_pos (by simp), if_neg (by simpa [rd] using h2)]) ?_
      simpa [rd] using Ev.now b
  · rw [if_neg h]
    refine Ev.step (fun k => by rw [cmp_Or_int.f, cmp_Or_int.l0, if_pos (by simp), if_pos (by omega), if_pos (by simp), if_neg (by simpa [rd] using h)]) ?_
    simpa [rd] using Ev.now a
theorem pairs_at (x y : S52) : ∃ c, Ev (fun k => impl_comparePairs.f k x.f0 x.f1 y.f0 y.f1) c ∧ (c < 0 ↔ lex52 x y = true) ∧ (x = y → c = 0) := by
  refine ⟨_, Ev.congr (fun k => by rw [impl_comparePairs.f, cmpInt_at, Option.bind_some, cmpInt_at, Option.bind_some]) (Ev.bind (cmpOr_at _ _) (Ev.now _)), ?_, ?_⟩
  · rw [lex52_iff]
    by_cases h : x.f0 < y.f0
    · simp [h]
    · by_cases h2 : x.f0 > y.f0
      · have h3 : ¬ (x.f0 = y.f0) := by omega
        simp [h, h2, h3]
      · have h3 : x.f0 = y.f0 := by omega
        by_cases h4 : x.f1 < y.f1
        · simp [h3, h4]
        · by_cases h5 : x.f1 > y.f1
          · simp [h3, h4, h5]
          · simp [h3, h4, h5]
  · rintro rfl
    simp
theorem find_at {sp : List S52} (hs : sp.Pairwise (fun x y => lex52 x y = true)) (hm : sp.length ≤ 1048576) (y : S52) (hy : y ∈ sp) (z : Int) : ∃ i : Int, Ev (fun k => slices_BinarySearchFunc_2_int_2_int_2_int.f k sp y.f0 y.f1 z) (i, true) := by
  have hp := List.pairwise_iff_getElem.1 hs
  have hfin : ∀ (d lo hi : Nat), hi - lo = d → lo ≤ hi → hi ≤ sp.length → (∀ j (hj : j < sp.length), j < lo → lex52 sp[j] y = true) → (∀ j (hj : j < sp.length), hi ≤ j → ¬ lex52 sp[j] y = true) → ∃ i : Int, Ev (fun k => slices_BinarySearchFunc_2_int_2_int_2_int.l0 k sp (sp.length : Int) (lo : Int) (hi : Int) y.f0 y.f1) (i, true) := by
    intro d
    induction d using Nat.strongRecOn with
    | ind d ih =>
      intro lo hi hd hle hhi hlo hup
      by_cases hlt : lo < hi
      · have hmid : wrap64 ((IntKind.u64.wrap (wrap64 ((lo : Int) + (hi : Int)))) / 2) = (((lo + hi) / 2 : Nat) : Int) := by
          rw [wr (x := (lo : Int) + hi) (by omega) (by omega)]
          have e : IntKind.u64.wrap ((lo : Int) + hi) = (lo : Int) + hi := by
            simp only [IntKind.wrap]
            first | omega | (simp [IntKind.signed, IntKind.bits]; omega)
          rw [e, wr (by omega) (by omega)]
          omega
        have hm2 : (lo + hi) / 2 < sp.length := by omega
        obtain ⟨c, hc1, hc2, _⟩ := pairs_at sp[(lo + hi) / 2] y
        by_cases hc : lex52 sp[(lo + hi) / 2] y = true
        · obtain ⟨i, h1⟩ := ih (hi - ((lo + hi) / 2 + 1)) (by omega) ((lo + hi) / 2 + 1) hi rfl (by omega) hhi (by
            intro j hj hjl
            by_cases e : j = (lo + hi) / 2
            · subst e; exact hc
            · exact lex52_trans (hp j ((lo + hi) / 2) hj hm2 (by omega)) hc) hup
          refine ⟨i, Ev.step (fun k => by rw [slices_BinarySearchFunc_2_int_2_int_2_int.l0, if_pos (by omega), hmid, if_pos (by omega), if_pos (by omega), rd_T52_at hm2, wi (by omega)]) (Ev.bind hc1 ?_)⟩
          exact Ev.congr (fun k => by rw [if_pos (hc2.2 hc)]) h1
        · obtain ⟨i, h1⟩ := ih ((lo + hi) / 2 - lo) (by omega) lo ((lo + hi) / 2) rfl (by omega) (by omega) hlo (by
            intro j hj hjl hl
            by_cases e : j = (lo + hi) / 2
            · subst e; exact hc hl
            · exact hc (lex52_trans (hp ((lo + hi) / 2) j hm2 hj (by omega)) hl))
          refine ⟨i, Ev.step (fun k => by rw [slices_BinarySearchFunc_2_int_2_int_2_int.l0, if_pos (by omega), hmid, if_pos (by omega), if_pos (by omega), rd_T52_at hm2, wi (by omega)]) (Ev.bind hc1 ?_)⟩
          exact Ev.congr (fun k => by rw [if_neg (fun h => hc (hc2.1 h))]) h1
      · obtain rfl : lo = hi := by omega
        obtain ⟨p, hpl, hpe⟩ := List.getElem_of_mem hy
        have hirr : ∀ x : S52, ¬ lex52 x x = true := fun x => by rw [lex52_iff]; omega
        have hge : lo ≤ p := by
          rcases Nat.lt_or_ge p lo with h | h
          · exact absurd (by have := hlo p hpl h; rwa [hpe] at this) (hirr y)
          · exact h
        have hle2 : p = lo := by
          rcases Nat.lt_or_ge lo p with h | h
          · have h5 := hp lo p (by omega) hpl h
            rw [hpe] at h5
            exact absurd h5 (hup lo (by omega) (Nat.le_refl _))
          · omega
        subst hle2
        obtain ⟨c, hc1, _, hc3⟩ := pairs_at sp[p] y
        refine ⟨(p : Int), Ev.step (fun k => by rw [slices_BinarySearchFunc_2_int_2_int_2_int.l0, if_neg (by omega), if_pos (by omega), if_pos (by omega), if_pos (by omega), rd_T52_at hpl]) (Ev.bind hc1 ?_)⟩
        rw [hc3 hpe]
        exact Ev.now _
  exact hfin sp.length 0 sp.length (by omega) (by omega) (by omega) (fun j hj h => by omega) (fun j hj h => by omega)
theorem isStep_at {n : Nat} {st : List (List Int)} {sp : List S52} (ok : StepsOK n sp) (hm : sp.length ≤ 1048576) (v c : Int) (h : c ∈ adj sp v) : Ev (fun k => impl_Space_isStep.f k st sp v c) true := by
  obtain ⟨s, hs, hsc⟩ := (adj_mem sp c v).1 h
  have hlt := (ok.rng s hs).2.1
  have hpair : impl_pair.f v c = some (s.f0, s.f1) := by
    unfold impl_pair.f mn mx
    rcases hsc with ⟨e1, e2⟩ | ⟨e1, e2⟩
    · rw [if_pos (by omega), if_neg (by omega), e1, e2]
    · rw [if_neg (by omega), if_pos (by omega), e1, e2]
  obtain ⟨i, hi⟩ := find_at ok.srt hm s hs fnc148
  refine Ev.congr (fun k => by rw [impl_Space_isStep.f, hpair, Option.bind_some]) ?_
  exact Ev.bind hi (Ev.now _)
theorem Path.steps {A : Int → Int → Prop} : ∀ {t : List Int} {v b : Int}, Path A v t b → ∀ k (h : k < t.length), A ((v :: t)[k]'(by simp only [List.length_cons]; omega)) t[k]
  | c :: t, v, b, h, 0, _ => h.1
  | c :: t, v, b, h, k + 1, hk => Path.steps h.2 k (by simpa using hk)
theorem Path.imp {A B : Int → Int → Prop} {f : Int → Int} : ∀ {t : List Int} {v b : Int}, (∀ u c, u ∈ v :: t → c ∈ t → A u c → B (f u) (f c)) → Path A v t b → Path B (f v) (t.map f) (f b)
  | [], v, b, _, h => congrArg f h
  | c :: t, v, b, hab, h => ⟨hab v c (by simp) (by simp) h.1, Path.imp (fun u c' hu hc' h' => hab u c' (List.mem_cons_of_mem _ hu) (List.mem_cons_of_mem _ hc') h') h.2⟩
theorem isWay_at {st : List (List Int)} {sp : List S52} (hn : st.length ≤ 300) (hm : sp.length ≤ 1048576) (ok : StepsOK st.length sp) (i b : Int) (tl : List Int) (hl : tl.length ≤ 1048577) (hp : Path (fun u c => c ∈ adj sp u) i tl b) (hr : ∀ c ∈ i :: tl, 0 ≤ c ∧ c < (st.length : Int)) : Ev (fun k => impl_IsWay.l0 k (i :: tl) (i :: tl) ((i :: tl).length : Int) 0 st sp) (true, true) := by
  have hst := Path.steps hp
  have := Ev.iter (i :: tl).length (fun k p => impl_IsWay.l0 k (i :: tl) (i :: tl) ((i :: tl).length : Int) (p : Int) st sp) (fun _ => (true, true)) (by
    intro p hpl h
    have hc := hr _ (List.getElem_mem hpl)
    have hplace : impl_Space_isPlace.f st sp (rd (i :: tl) (p : Int)) = some true := by
      rw [rd_at hpl, impl_Space_isPlace.f, wr (by omega) (by omega), impl_between.f, if_pos hc.1, Option.bind_some]
      exact congrArg some (decide_eq_true (by omega))
    have hlen : (i :: tl).length = tl.length + 1 := by simp
    refine Ev.step (fun k => by rw [impl_IsWay.l0, if_pos (by omega), if_pos (by omega), if_pos (by omega), hplace, Option.bind_some, if_pos rfl]) ?_
    cases p with
    | zero => exact Ev.congr (fun k => by rw [if_neg (by omega), wi (by omega)]) h
    | succ p =>
      have hpt : p < tl.length := by omega
      have e1 : wrap64 (((p + 1 : Nat) : Int) - 1) = (p : Int) := by unfold wrap64; omega
      have e2 : rd (i :: tl) ((p + 1 : Nat) : Int) = tl[p] := by rw [rd_at hpl]; rfl
      have e3 : rd (i :: tl) (p : Int) = (i :: tl)[p]'(by omega) := rd_at (by omega)
      have hs := isStep_at (st := st) ok hm _ _ (hst p hpt)
      refine Ev.congr (fun k => by rw [if_pos (by omega), e1, if_pos (by omega), if_pos (by omega), e2, e3, wi (by omega)]) (Ev.bind hs ?_)
      exact Ev.congr (fun k => by rw [if_pos rfl]) h) (Ev.step (fun k => by rw [impl_IsWay.l0, if_neg (by omega), decide_eq_true (by simp only [List.length_cons]; omega)]) (Ev.now _)) 0 (by omega)
  exact this
def peakT (hs way : List Int) : Nat → Int
  | 0 => 0
  | k + 1 => mx (peakT hs way k) (rd hs (rd way (k : Int)))
theorem peakT_spec (hs way : List Int) : ∀ p, 0 ≤ peakT hs way p ∧ (∀ q, q < p → rd hs (rd way (q : Int)) ≤ peakT hs way p) ∧ (peakT hs way p = 0 ∨ ∃ q, q < p ∧ peakT hs way p = rd hs (rd way (q : Int))) := by
  intro p
  induction p with
  | zero => exact ⟨Int.le_refl _, fun q hq => by omega, .inl rfl⟩
  | succ p ih =>
    obtain ⟨h1, h2, h3⟩ := ih
    simp only [peakT, mx]
    by_cases h : peakT hs way p < rd hs (rd way (p : Int))
    · rw [if_pos h]
      refine ⟨by omega, fun q hq => ?_, .inr ⟨p, by omega, rfl⟩⟩
      rcases (show q < p ∨ q = p by omega) with h' | rfl
      · have := h2 q h'; omega
      · exact Int.le_refl _
    · rw [if_neg h]
      refine ⟨h1, fun q hq => ?_, h3.imp id (fun ⟨q, hq, e⟩ => ⟨q, by omega, e⟩)⟩
      rcases (show q < p ∨ q = p by omega) with h' | rfl
      · exact h2 q h'
      · omega
theorem peakOf_l0 (hs way : List Int) (hw : way.length ≤ 1048578) (hr : ∀ c ∈ way, 0 ≤ c ∧ c < (hs.length : Int)) : Ev (fun k => impl_PeakOf.l0 k hs 0 way (way.length : Int) 0) (peakT hs way way.length, true) :=
  Ev.iter way.length (fun k p => impl_PeakOf.l0 k hs (peakT hs way p) way (way.length : Int) (p : Int)) (fun _ => (peakT hs way way.length, true)) (by
    intro p hp h
    have hc := hr _ (List.getElem_mem hp)
    refine Ev.step (fun k => by rw [impl_PeakOf.l0, if_pos (by omega), if_pos (by omega), if_pos (by omega), if_pos (by rw [rd_at hp]; exact hc.1), if_pos (by rw [rd_at hp]; exact hc.2), wi (by omega)]; rfl) h) (Ev.step (fun k => by rw [impl_PeakOf.l0, if_neg (by omega)]) (Ev.now _)) 0 (by omega)
theorem low_path (st : List (List Int)) (sp : List S52) (hs : List Int) (i j : Int) (hv : okSpace st sp = true) (hr : ∀ x ∈ st, x.length ≤ 1048576) (hl : hs.length = st.length) (level : Int) :
    ∃ w : List Int, Ev (fun k => spec_l11Low.f k st sp hs i j level) w ∧ (w ≠ [] → ∃ tl, w = i :: tl ∧ Path (fun u c => c ∈ adj sp u) i tl j ∧ ∀ c ∈ w, c ∈ und hs level) := by
  obtain ⟨hn, hm, ok⟩ := okSpace_steps hv
  have hR : Rising st.length (und hs level) := hl ▸ und_rising hs level
  have hlen := hR.few
  have hU := l11Under_at hs level (by omega)
  have hJ := l2Induced_at st sp (und hs level) (by omega) (by omega) ok hr hR
  obtain ⟨pi1, pi2, pi3⟩ := @pos_lt_len (und hs level) i
  obtain ⟨pj1, pj2, pj3⟩ := @pos_lt_len (und hs level) j
  have okI := ind_ok ok hR
  have hilen := ind_len sp (und hs level)
  have spec0 : ∀ w, Ev (fun k => spec_l11Low.l0 k i j (pos (und hs level) i) (pos (und hs level) j) ((und hs level).length : Int) (und hs level) [] ((und hs level).map (rd_L1 st)) (ind sp (und hs level))) w → Ev (fun k => spec_l11Low.f k st sp hs i j level) w := fun w h =>
    Ev.bind hU (Ev.bind hJ (low_l0 hs level i j (by omega) _ _ w h))
  by_cases hij : 0 ≤ pos (und hs level) i ∧ 0 ≤ pos (und hs level) j
  · obtain ⟨w, w1, _, _, w4, w5, w6⟩ := walkp_both ((und hs level).map (rd_L1 st)) (ind sp (und hs level)) (pos (und hs level) i) (pos (und hs level) j) (by simp; omega) (by omega) (by simpa using okI) hij.1 (by simpa using pi1) hij.2 (by simpa using pj1)
    simp only [List.length_map] at w5 w6
    refine ⟨w.map (rd (und hs level)), spec0 _ ?_, fun hne => ?_⟩
    · refine Ev.step (fun k => by rw [spec_l11Low.l0, if_neg (by omega), if_neg (by omega)]) ?_
      refine Ev.step (fun k => by rw [spec_l11Low.j1, if_neg (by simp; omega)]) ?_
      exact Ev.bind w1 (low_l1 _ w (by omega) w4 w5)
    · obtain ⟨tl, e, hp⟩ := w6 (fun e => hne (by rw [e]; rfl))
      subst e
      have hp2 := Path.imp (f := rd (und hs level)) (B := fun u c => c ∈ adj sp u) (fun u c hu hc h => by
        have hu' := w5 u hu
        rw [rd_lists _ _ _ hu'.1 hu'.2, adj_mem] at h
        obtain ⟨s, hs', hsc⟩ := h
        obtain ⟨s0, hs0, e⟩ := List.mem_filterMap.1 hs'
        split at e
        case isFalse => cases e
        case isTrue hpp =>
        injection e with e
        subst e
        rw [adj_mem]
        refine ⟨s0, hs0, ?_⟩
        rcases hsc with ⟨e1, e2⟩ | ⟨e1, e2⟩
        · left; dsimp only at e1 e2; rw [← e1, ← e2]; exact ⟨(rd_pos hR hpp.2).symm, (rd_pos hR hpp.1).symm⟩
        · right; dsimp only at e1 e2; rw [← e1, ← e2]; exact ⟨(rd_pos hR hpp.1).symm, (rd_pos hR hpp.2).symm⟩) hp
      rw [rd_pos hR hij.1, rd_pos hR hij.2] at hp2
      refine ⟨tl.map (rd (und hs level)), by rw [List.map_cons, rd_pos hR hij.1], hp2, fun c hc => ?_⟩
      obtain ⟨p, hp3, rfl⟩ := List.mem_map.1 hc
      have hpr := w5 p hp3
      obtain ⟨q, rfl⟩ := Int.eq_ofNat_of_zero_le hpr.1
      exact rd_mem (by omega)
  · refine ⟨[], spec0 _ ?_, fun h => absurd rfl h⟩
    refine Ev.step (fun k => by rw [spec_l11Low.l0, if_neg (by omega)]) ?_
    by_cases e : pos (und hs level) i < 0
    · refine Ev.congr (fun k => by rw [if_pos e]) ?_
      exact Ev.step (fun k => by rw [spec_l11Low.j1, if_pos rfl]) (Ev.now _)
    · refine Ev.congr (fun k => by rw [if_neg e]) ?_
      exact Ev.step (fun k => by rw [spec_l11Low.j1, if_pos (by simp; omega)]) (Ev.now _)
theorem path_reach {n : Nat} {sp : List S52} {l : List Int} (hR : Rising n l) : ∀ {t : List Int} {v b : Int}, (∀ c ∈ v :: t, c ∈ l) → Path (fun u c => c ∈ adj sp u) v t b → Reach (lists l.length (ind sp l)) (pos l v) (pos l b)
  | [], v, b, _, h => by simp only [Path] at h; rw [h]; exact Reach.refl _
  | c :: t, v, b, hm, h => by
    obtain ⟨pv1, _, pv3⟩ := @pos_lt_len l v
    obtain ⟨_, _, pc3⟩ := @pos_lt_len l c
    have hv := pv3.2 (hm v (by simp))
    have hc := pc3.2 (hm c (by simp))
    refine Reach.trans (Reach.step _ (Reach.refl _) ?_) (path_reach hR (fun x hx => hm x (List.mem_cons_of_mem _ hx)) h.2)
    rw [rd_lists _ _ _ hv pv1, adj_mem]
    obtain ⟨s, hs, hsc⟩ := (adj_mem sp c v).1 h.1
    rcases hsc with ⟨e1, e2⟩ | ⟨e1, e2⟩
    · exact ⟨⟨pos l s.f0, pos l s.f1⟩, List.mem_filterMap.2 ⟨s, hs, by rw [e1, e2, if_pos ⟨hc, hv⟩]⟩, .inl ⟨by rw [e1], by rw [e2]⟩⟩
    · exact ⟨⟨pos l s.f0, pos l s.f1⟩, List.mem_filterMap.2 ⟨s, hs, by rw [e1, e2, if_pos ⟨hv, hc⟩]⟩, .inr ⟨by rw [e1], by rw [e2]⟩⟩
theorem leastPeak_at (st : List (List Int)) (sp : List S52) (hs : List Int) (i j : Int) (hr : ∀ x ∈ st, x.length ≤ 1048576) (hl : hs.length ≤ 1048576) : ∃ r : Int × Bool, Ev (fun k => spec_LeastPeak.f k st sp hs i j) r ∧ Ev (fun k => impl_LeastPeak.f k st sp hs i j) r := by
  obtain ⟨e, hE, hno, hyes⟩ := lowX_at st sp hs i j hr hl
  cases e with
  | false =>
    refine ⟨(0, false), Ev.bind hE (Ev.congr (fun k => by rw [if_neg (by simp)]) (Ev.now _)), ?_⟩
    exact Ev.bind (hno rfl) (Ev.congr (fun k => by rw [if_neg (by simp)]) (Ev.now _))
  | true =>
    obtain ⟨hok, B, w, hB, hpk, hlw, hne, hwl, himpl, hmin⟩ := hyes rfl
    have hI := isHigh_at st sp hs hr
    rw [hok] at hI
    obtain ⟨hv, hload⟩ : okSpace st sp = true ∧ loadsOK st.length hs = true := by simpa [okHigh] using hok
    obtain ⟨hn, hm, ok⟩ := okSpace_steps hv
    have hS := isSpace_at st sp (fun x hx => by have := hr x hx; omega)
    rw [hv] at hS
    have hlen : hs.length = st.length := by
      simp only [loadsOK, Bool.and_eq_true, decide_eq_true_eq] at hload
      omega
    have hge : ∀ x ∈ hs, 0 ≤ x := by
      intro x hx
      simp only [loadsOK, Bool.and_eq_true, List.all_eq_true, decide_eq_true_eq] at hload
      exact (hload.1 x hx).1
    obtain ⟨w2, hw2, hpath⟩ := low_path st sp hs i j hv hr hlen B
    obtain rfl := Ev.one hlw hw2
    obtain ⟨tl, rfl, hp, hin⟩ := hpath hne
    have hRB : Rising st.length (und hs B) := hlen ▸ und_rising hs B
    have hrng : ∀ c ∈ i :: tl, 0 ≤ c ∧ c < (st.length : Int) := fun c hc => hRB.rng c (hin c hc)
    have hund : ∀ (level c : Int), 0 ≤ c → c < (st.length : Int) → (c ∈ und hs level ↔ rd hs c ≤ level) := fun level c h0 h1 => by
      unfold und undT
      obtain ⟨c, rfl⟩ := Int.eq_ofNat_of_zero_le h0
      simp only [List.mem_map, List.mem_filter, List.mem_range, decide_eq_true_eq]
      constructor
      · rintro ⟨a, ⟨_, h3⟩, h4⟩
        obtain rfl : a = c := by omega
        exact h3
      · intro h
        exact ⟨c, ⟨by omega, h⟩, rfl⟩
    have htl : tl.length ≤ 1048577 := by have := hwl; simp at this; omega
    have hway : Ev (fun k => impl_isWay.f k st sp (i :: tl)) true := by
      refine Ev.bind (a := (true, true)) ?_ (Ev.now _)
      exact Ev.bind hS (Ev.congr (fun k => by rw [if_pos rfl]) (isWay_at hn (by omega) ok i j tl htl hp hrng))
    have hpo := peakOf_l0 hs (i :: tl) (by simp; omega) (fun c hc => by have := hrng c hc; omega)
    obtain ⟨t1, t2, t3⟩ := peakT_spec hs (i :: tl) (i :: tl).length
    have hpos : 0 < (i :: tl).length := by simp
    have hle : peakT hs (i :: tl) (i :: tl).length ≤ B := by
      rcases t3 with h | ⟨q, hq, h⟩
      · rw [h]; exact hge B hB
      · rw [h]
        have hm' := rd_mem hq
        have hr' := hrng _ hm'
        exact (hund B _ hr'.1 hr'.2).1 (hin _ hm')
    have hpin : peakT hs (i :: tl) (i :: tl).length ∈ hs := by
      have key : ∀ q, q < (i :: tl).length → rd hs (rd (i :: tl) (q : Int)) ∈ hs := fun q hq => by
        have hr' := hrng _ (rd_mem hq)
        obtain ⟨c, hc⟩ := Int.eq_ofNat_of_zero_le hr'.1
        rw [hc]
        exact rd_mem (by omega)
      rcases t3 with h | ⟨q, hq, h⟩
      · have h0 := t2 0 hpos
        have h1 := hge _ (key 0 hpos)
        have : rd hs (rd (i :: tl) ((0 : Nat) : Int)) = peakT hs (i :: tl) (i :: tl).length := by omega
        rw [← this]
        exact key 0 hpos
      · rw [h]; exact key q hq
    have heq : peakT hs (i :: tl) (i :: tl).length = B := by
      rcases Int.lt_or_eq_of_le hle with hlt | h
      · exfalso
        have hnil := hmin _ hpin hlt
        obtain ⟨w3, hw3, _, _, hiff⟩ := low_both st sp hs i j hv hr hlen (peakT hs (i :: tl) (i :: tl).length)
        have hRM : Rising st.length (und hs (peakT hs (i :: tl) (i :: tl).length)) := hlen ▸ und_rising hs _
        have hlm := hRM.few
        have hall : ∀ c ∈ i :: tl, c ∈ und hs (peakT hs (i :: tl) (i :: tl).length) := fun c hc => by
          have hr' := hrng c hc
          obtain ⟨q, hq, rfl⟩ := List.getElem_of_mem hc
          refine (hund _ _ hr'.1 hr'.2).2 ?_
          have := t2 q hq
          rwa [rd_at hq] at this
        have hjm := hall j (Path.last hp)
        have him := hall i (by simp)
        have hre := path_reach hRM hall hp
        have NM := nbs_of (by omega : (und hs (peakT hs (i :: tl) (i :: tl).length)).length ≤ 1048576) (Nat.le_trans (ind_len sp _) (by omega)) (ind_ok ok hRM)
        obtain ⟨pi1, _, pi3⟩ := @pos_lt_len (und hs (peakT hs (i :: tl) (i :: tl).length)) i
        have := hiff.2 ⟨him, hjm, reach_symm NM hre (pi3.2 him) pi1⟩
        exact this (Ev.one hw3 hnil)
      · exact h
    rw [heq] at hpo
    refine ⟨(B, true), Ev.bind hE (Ev.congr (fun k => by rw [if_pos rfl]) (Ev.bind hpk (Ev.now _))), ?_⟩
    refine Ev.bind himpl (Ev.congr (fun k => by rw [if_pos rfl]) ?_)
    refine Ev.bind (a := (B, true)) ?_ (Ev.now _)
    refine Ev.bind hI (Ev.congr (fun k => by rw [if_pos rfl]) ?_)
    refine Ev.bind hway ?_
    exact Ev.step (fun k => by rw [impl_PeakOf.j0, if_neg (by simp)]) hpo
end Go.Proofs.Ytiimbndjggebdaa.Q
namespace Go.Proofs.Ytiimbndjggebdaa.Q
open Go.RowKit Go.Proofs.YtiimbndjggebdaaW.PrintWords Go.Proofs.YtiimbndjggebdaaW.PrintLast Go.Proofs.YtiimbndjggebdaaW.PrintMore
set_option linter.unusedVariables false
set_option linter.unusedSimpArgs false
theorem peakLaw_at (st : List (List Int)) (sp : List S52) (hs : List Int) (i j : Int) (hl0 : st.length ≤ 9223372036854775807) (hr0 : ∀ x ∈ st, x.length ≤ 9223372036854775807) (hl1 : sp.length ≤ 9223372036854775807) : Ev (fun k => laws_FnExactLeastPeak.f k st sp hs i j) true := by
  by_cases hc : (hs.length : Int) > 1048576
  · exact Ev.congr (fun k => by rw [laws_FnExactLeastPeak.f, if_pos hc]) (Ev.now _)
  refine Ev.congr (fun k => by rw [laws_FnExactLeastPeak.f, if_neg hc]) ?_
  refine Ev.bind (szSpace_at st sp hl0 hr0 hl1) ?_
  by_cases hz : (st.length : Int) + total st + sp.length ≤ 1048576
  case neg =>
    rw [if_neg hz]
    exact Ev.now _
  rw [if_pos hz]
  have hst : st.length ≤ 1048576 := by omega
  have hsp : sp.length ≤ 1048576 := by omega
  have hhs : hs.length ≤ 1048576 := by omega
  have hrow : ∀ x ∈ st, x.length ≤ 1048576 := fun x hx => by have := total_mem st x hx; omega
  have hrow2 : ∀ x ∈ st, x.length ≤ 4611686018427387903 := fun x hx => by have := hrow x hx; omega
  have hS := toSpace_id st sp hst hrow hsp
  have hH := toIntS_id hs hhs
  have hEH := eqIntS_refl hs (by omega)
  have hES := eqSpace_refl st sp (by omega) hrow2 (by omega)
  obtain ⟨r, hA, hB⟩ := leastPeak_at st sp hs i j hrow hhs
  refine Ev.congr (fun k => by rw [if_neg (by omega)]) ?_
  refine Ev.bind hS ?_
  refine Ev.bind hH ?_
  refine Ev.bind hA ?_
  refine Ev.bind hS ?_
  refine Ev.bind hH ?_
  refine Ev.bind hB ?_
  refine Ev.congr (fun k => by rw [if_pos rfl]) ?_
  refine Ev.step (fun k => by rw [laws_FnExactLeastPeak.j0, if_neg (by simp)]) ?_
  refine Ev.bind hS ?_
  refine Ev.bind hES ?_
  refine Ev.congr (fun k => by rw [if_pos rfl]) ?_
  refine Ev.bind hH ?_
  refine Ev.bind hEH ?_
  exact Ev.congr (fun k => by rw [if_pos rfl]) (Ev.now _)
end Go.Proofs.Ytiimbndjggebdaa.Q
