/- How a law's arguments are read: rows of rows of whole numbers, rows of pairs, a struct of two slices. Conditions: none. -/
import Derived.Test.YtiimbndjggebdaaRows
import Derived.Test.YtiimbndjggebdaaC3Q0
import Derived.WalkKit
import Derived.ProofKit
import Derived.OpenShut
import Derived.ShutString
import Derived.ChangeOld
import Derived.Below
import Derived.SizedLaws
import Derived.Deep.Slices
import Derived.Lib.SmallJoins
import Derived.Test.YtiimbndjggebdaaC3W
namespace Go.Proofs.Ytiimbndjggebdaa.Q
open Go.RowKit Go.Proofs.YtiimbndjggebdaaW.PrintWords Go.Proofs.YtiimbndjggebdaaW.PrintLast Go.Proofs.YtiimbndjggebdaaW.PrintMore
open Go.ChangeShapes Go.WideShapes Go.ChangeAt Go.Deep
set_option linter.unusedVariables false
set_option linter.unusedSimpArgs false
variable {H : Type} {enc : TypeId × Value → H} {P : Program} {w : World} {base : Nat} {spare : Nat → Bool} {held : Bool}
theorem rows_open {α : Type} [Inhabited α] (d : Kd α) {t e : TypeId} (ht : P.underlying t = some (.slice e)) (hc : P.cellsOf e = d.sz)
    (elem : ∀ n cs y, DataW.trod enc P w base spare held n e cs = some y → ∃ x, d.K w x cs) {fuel : Nat} {cs : List Value} {y : DataW H × List MemPlace} (h : DataW.trod enc P w base spare held fuel t cs = some y) :
    ∃ A c xs, cs = [.slice A xs.length c] ∧ xs.length ≤ c ∧ d.C w A xs.length xs := by
  rcases open_slice ht h with ⟨rfl, _⟩ | ⟨a, len, cap, m, n, D, Pl, rfl, hb, hl, hm, hmm, _, hx⟩
  · exact ⟨none, 0, [], rfl, Nat.le_refl _, rfl, by simp, fun hn => by simp at hn⟩
  · have hlm : len ≤ m := by rw [hmm]; split <;> omega
    obtain ⟨f, hf⟩ := choose_lt (α := α) (n := len) (p := fun i x => ∃ cs', w.cells? base (a.add (i * P.cellsOf e)) (P.cellsOf e) = some cs' ∧ d.K w x cs') (fun i hi => by
      obtain ⟨cs', h1, h2⟩ := hx i (by omega)
      obtain ⟨x, hk⟩ := elem _ _ _ h2
      exact ⟨x, cs', h1, hk⟩)
    have hlen : ((List.range len).map f).length = len := by simp
    refine ⟨some a, cap, (List.range len).map f, by rw [hlen], by rw [hlen]; exact hl, ?_⟩
    rw [hlen]
    refine ⟨hlen, by unfold maxLen at hm; omega, fun _ => ⟨a, rfl, ?_⟩⟩
    intro j p hp
    have hj : j < len := by
      have := (List.getElem?_eq_some_iff.1 hp).1
      simpa using this
    obtain ⟨cs', h1, hk⟩ := hf j hj
    have e1 : p = f j := by
      rw [List.getElem?_map, List.getElem?_range hj] at hp
      exact (Option.some.inj hp).symm
    subst e1
    obtain ⟨_, h3, h4⟩ := World.cells?_some h1
    refine ⟨cs', h3.trans hc, hk, fun i u hu => ?_⟩
    have hi : i < P.cellsOf e := by rw [← h3]; exact (List.getElem?_eq_some_iff.1 hu).1
    have := h4 i hi
    rw [hu, hc, show (a.add (j * d.sz)).add i = a.add (j * d.sz + i) from Go.Deep.add_add _ _ _] at this
    exact this
theorem trod_array2 {t e : TypeId} {fuel : Nat} {cs : List Value} {x : DataW H × List MemPlace} (ht : P.underlying t = some (.array 2 e)) (hct : P.cellsOf t = 2) (hce : P.cellsOf e = 1)
    (h : DataW.trod enc P w base spare held fuel t cs = some x) :
    ∃ c0 c1 y0 y1 n, cs = [c0, c1] ∧ DataW.trod enc P w base spare held n e [c0] = some y0 ∧ DataW.trod enc P w base spare held n e [c1] = some y1 := by
  cases fuel with
  | zero => simp [DataW.trod] at h
  | succ n =>
    unfold DataW.trod at h
    rw [ht] at h
    have r2 : List.range 2 = [0, 1] := rfl
    simp only [r2, hce] at h
    split at h
    · rename_i hl
      have hl2 : cs.length = 2 := by simpa [hct] using hl
      match cs, hl2 with
      | [c0, c1], _ =>
        simp at h
        cases h0 : DataW.trod enc P w base spare held n e [c0] with
        | none => simp [h0] at h
        | some y0 =>
          cases h1 : DataW.trod enc P w base spare held n e [c1] with
          | none => simp [h0, h1] at h
          | some y1 => exact ⟨c0, c1, y0, y1, n, rfl, h0, h1⟩
    · cases h
theorem cells3 : Try.prog.cellsOf 3 = 1 := by kernel_rfl
theorem cells26 : Try.prog.cellsOf 26 = 1 := by kernel_rfl
theorem cells52 : Try.prog.cellsOf 52 = 2 := by kernel_rfl
theorem cells25 : Try.prog.cellsOf 25 = 2 := by kernel_rfl
instance : Inhabited S52 := ⟨z52⟩
theorem elem_int : ∀ n cs (y : DataW H × List MemPlace), DataW.trod enc Try.prog w base spare held n 3 cs = some y → ∃ x, (Kd.int .i64).K w x cs := by
  intro n cs y h
  obtain ⟨a, e0, rfl, wa⟩ := DataW.trod_int Try.underlying3 h
  exact ⟨a, e0⟩
theorem elem_row : ∀ n cs (y : DataW H × List MemPlace), DataW.trod enc Try.prog w base spare held n 26 cs = some y → ∃ x, (Kd.slice 3 (Kd.int .i64)).K w x cs := by
  intro n cs y h
  obtain ⟨A, c, xs, h1, h2, h3⟩ := rows_open (Kd.int .i64) Try.underlying26 cells3 elem_int h
  exact ⟨xs, A, c, h1, h2, h3⟩
theorem elem_pair : ∀ n cs (y : DataW H × List MemPlace), DataW.trod enc Try.prog w base spare held n 52 cs = some y → ∃ x, k52.K w x cs := by
  intro n cs y h
  obtain ⟨c0, c1, y0, y1, m, rfl, h0, h1⟩ := trod_array2 Try.underlying52 cells52 cells3 h
  obtain ⟨a, e0, rfl, _⟩ := DataW.trod_int Try.underlying3 h0
  obtain ⟨b, e1, rfl, _⟩ := DataW.trod_int Try.underlying3 h1
  simp at e0 e1
  subst e0 e1
  exact ⟨⟨a, b⟩, k52_mk _ ⟨a, b⟩⟩
theorem open_I {fuel : Nat} {cs : List Value} {y : DataW H × List MemPlace} (h : DataW.trod enc Try.prog w base spare held fuel 26 cs = some y) : ∃ A c xs, cs = [.slice A xs.length c] ∧ xs.length ≤ c ∧ (Kd.int .i64).C w A xs.length xs := rows_open (Kd.int .i64) Try.underlying26 cells3 elem_int h
theorem open_II {fuel : Nat} {cs : List Value} {y : DataW H × List MemPlace} (h : DataW.trod enc Try.prog w base spare held fuel 22 cs = some y) : ∃ A c xs, cs = [.slice A xs.length c] ∧ xs.length ≤ c ∧ (Kd.slice 3 (Kd.int .i64)).C w A xs.length xs := rows_open (Kd.slice 3 (Kd.int .i64)) Try.underlying22 cells26 elem_row h
theorem open_P {fuel : Nat} {cs : List Value} {y : DataW H × List MemPlace} (h : DataW.trod enc Try.prog w base spare held fuel 23 cs = some y) : ∃ A c xs, cs = [.slice A xs.length c] ∧ xs.length ≤ c ∧ k52.C w A xs.length xs := rows_open k52 Try.underlying23 cells52 elem_pair h
theorem C_rows_max {α : Type} {d : Kd α} {e : Nat} {A : Option Addr} {n : Nat} {xs : List (List α)} (h : (Kd.slice e d).C w A n xs) : ∀ x ∈ xs, x.length ≤ 9223372036854775807 := by
  intro x hx
  obtain ⟨j, hj, rfl⟩ := List.getElem_of_mem hx
  have hn : 0 < n := by have := h.1; omega
  obtain ⟨ad, _, hc⟩ := h.2.2 hn
  obtain ⟨c, _, ⟨A2, c2, _, _, hC⟩, _⟩ := hc j _ (List.getElem?_eq_getElem hj)
  exact hC.2.1
end Go.Proofs.Ytiimbndjggebdaa.Q
