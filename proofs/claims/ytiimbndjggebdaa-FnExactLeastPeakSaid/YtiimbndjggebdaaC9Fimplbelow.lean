/- Printed by a program of ours (wip/tools/myprint.py) out of the translation: for Go functions of this seat plain Lean functions, and proofs that the calls come to what these say. Conditions: none. -/
import Derived.Test.YtiimbndjggebdaaC9Q0
import Derived.Test.YtiimbndjggebdaaC9S
namespace Go.Proofs.Ytiimbndjggebdaa.Q
open Go.RowKit Go.Proofs.YtiimbndjggebdaaW.PrintWords Go.Proofs.YtiimbndjggebdaaW.PrintLast Go.Proofs.YtiimbndjggebdaaW.PrintMore
attribute [local go_sem] max2_int min2_int max_two min_two max_three min_three max_four min_four   -- for this text's walks alone
set_option linter.unusedVariables false
set_option linter.unusedSimpArgs false
def impl_below.l0 : Nat → Int → List Int → List Int → Int → Int → Option (List Int)
  | 0, _, _, _, _, _ => none
  | k + 1, x1, x5, x9, x10, x11 => if x11 < x10 then (if 0 ≤ x11 then (if x11 < (x9.length : Int) then (if (rd x9 x11) ≤ x1 then (if x5.length < 17592186044416 then (impl_below.l0 k x1 (x5 ++ [x11]) x9 x10 (wrap64 (x11 + 1))) else (none)) else (impl_below.l0 k x1 x5 x9 x10 (wrap64 (x11 + 1)))) else (none)) else (none)) else (some x5)
def impl_below.f (k : Nat) (l0 : List Int) (a1 : Int) : Option (List Int) := impl_below.l0 k a1 (([] : List Int)) l0 (l0.length : Int) 0
set_option maxHeartbeats 8000000 in
set_option maxRecDepth 100000 in
theorem impl_below.calls (k : Nat) (A0 : Option Addr) (c0 : Nat) (l0 : List Int) (a1 : Int) (r : List Int) (w : World) (hr0 : Kd.C (Kd.int .i64) w A0 l0.length l0) (hc0 : l0.length ≤ c0) (h : impl_below.f k l0 a1 = some r) :
    Calls Try.prog 68 #[.slice A0 l0.length c0, .int .i64 a1] w fun e w' => ∃ v0_ : Value, e = .returned (v0_) ∧ Kd.R (Kd.int .i64) 3 w' w.heap.size (fun _ => True) v0_ r ∧ Below w.heap.size w w' := by
 have HR0 := Aside0.mk hr0; have HC0 := Aside0.mk hc0; clear hr0 hc0; have HB := Aside0.mk (Below.refl w.heap.size w); have H : (impl_below.l0 k a1 (([] : List Int)) l0 (l0.length : Int) 0) = some r := h; clear h; obtain ⟨y581, hy581⟩ : ∃ y_ : List Int, y_ = (([] : List Int)) := ⟨_, rfl⟩; replace H : (impl_below.l0 k a1 y581 l0 (l0.length : Int) 0) = some r := ZH hy581 H; have Ny581 := Aside0.mk hy581; clear hy581; have H' := Aside0.mk H; clear H; go_enter Try.func68, Try.ntmps68; go_wp2_with ((with_reducible refine ZD 8 rfl ?_); refine Kd.R_lit (Kd.int .i64) _ 3 ?hg (N := 8) ?hd (xs := ([] : List Int)) (inner := []) (ok := fun _ => True) (okp := fun _ => True) ?hr ?hp (fun _ hk => hk) trivial (Below.refl _ _) (Nat.le_refl _) (by simp) ?_; (case hd => rfl); (case hg => rfl); (case hr => first | (go_simp; done) | (go_simp; rfl)); (case hp => exact (Reps.none _ _)); intro v582 w3 ho4 hb hg_ hnew_; clear hg_ hnew_; (first | rw [← Ny581.out] at ho4 | (simp only [Int.reduceToNat] at ho4; rw [← Ny581.out] at ho4)); refine Y2 ?_ (Aside0.mk (Kd.R_lower ho4 (below_size Zh))) (Zy Zh hb); clear HB hb ho4; intro HO583 HB); go_loopg [5, 11] k (fun kq v5 v11 w' => ∃ (x5_1 : List Int) (x11_1 : Int), v11 = .int .i64 x11_1 ∧ Aside0 (impl_below.l0 kq a1 x5_1 l0 (l0.length : Int) x11_1 = some r) ∧ Aside0 (kq ≤ k) ∧ Aside0 (Kd.R (Kd.int .i64) 3 w' w.heap.size (fun _ => True) v5 x5_1) ∧ Aside0 (Below w.heap.size w w'))
 case atStart => exact ⟨(y581), (0), Zq, H', ⟨Nat.le_refl _⟩, ⟨Zr HO583.out⟩, ⟨Zh⟩⟩
 clear H'
 try clear p2
 obtain ⟨x5_1, x11_1, rfl, HA, HK1, HO_5, HB⟩ := hrel; rcases gk with _ | k1
 ·exact absurd HA.out (by simp [impl_below.l0])
 have H := HA.out; clear HA; simp only [impl_below.l0] at H; by_cases c5 : x11_1 < (l0.length : Int); rotate_left
 ·rw [if_neg c5] at H; have c5b0 := decide_eq_false c5; clear c5; obtain rfl := Option.some.inj H; go_wp2; go_ret; exact ⟨_, Ze, Zr HO_5.out, Zh⟩
 rw [if_pos c5] at H; have c5b0 := decide_eq_true c5; clear c5; replace H := Zu H; obtain ⟨c6, H⟩ := H; have c6b0 := decide_eq_true c6; clear c6; replace H := Zu H; obtain ⟨c7, H⟩ := H; have c7b0 := decide_eq_true c7; clear c7; by_cases c8 : (rd l0 x11_1) ≤ a1; rotate_left
 ·rw [if_neg c8] at H; have c8b0 := decide_eq_false c8; clear c8; have H' := Aside0.mk H; clear H; have p584 : 0 ≤ (x11_1 : Int) := Zf; have q584 : x11_1 < (l0.length : Int) := Zf; obtain ⟨ad584, e584, hx584_0⟩ := Kd.at_int HR0.out x11_1 p584 q584; cases e584; replace hx584_0 := Z3 HB hx584_0; replace p584 := eq_true p584; replace q584 := eq_true q584; go_wp2
  first | go_roundg k1 | ((simp only [add_plain] at *); go_roundg k1)
  case measure => have := HK1.out; omega
  case rel => exact ⟨(x5_1), (wrap64 (x11_1 + 1)), Zq, H', ⟨by have := HK1.out; omega⟩, ⟨Zr HO_5.out⟩, ⟨Zh⟩⟩
 rw [if_pos c8] at H; have c8b0 := decide_eq_true c8; clear c8; replace H := Zu H; obtain ⟨c9, H⟩ := H; have LMc9 := Aside0.mk c9; clear c9; obtain ⟨y585, hy585⟩ : ∃ y_ : List Int, y_ = (x5_1 ++ [x11_1]) := ⟨_, rfl⟩; replace H : (impl_below.l0 k1 a1 y585 l0 (l0.length : Int) (wrap64 (x11_1 + 1))) = some r := ZH hy585 H; have Ny585 := Aside0.mk hy585; clear hy585; have H' := Aside0.mk H; clear H; have p584 : 0 ≤ (x11_1 : Int) := Zf; have q584 : x11_1 < (l0.length : Int) := Zf; obtain ⟨ad584, e584, hx584_0⟩ := Kd.at_int HR0.out x11_1 p584 q584; cases e584; replace hx584_0 := Z3 HB hx584_0; replace p584 := eq_true p584; replace q584 := eq_true q584; go_wp2_with ((with_reducible refine gate_builtin (b := .append) (xs := #[.tmp 19, .tmp 21]) rfl ?_); at_builtin; refine Kd.R_append (Kd.int .i64) (w0 := w) w.heap.size rfl (.tmp 19) (.tmp 21) 26 3 (.int .i64 0) 8 rfl Try.underlying26 info3 rfl (by decide) (by omega) u5 x5_1 x11_1 [.int .i64 x11_1] (fun _ => True) (fun _ => False) rfl rfl ?aP (fun _ hk => hk.elim) ?aF ?aO ?aB ?aS ?aL ?_; (case aP => exact rfl); (case aB => exact Zh); (case aF => exact (fun _ _ => trivial)); (case aO => exact (Zr HO_5.out)); (case aS => exact (below_size Zh)); (case aL => have := LMc9.out; omega); intro v586 w10 ho hb hg hat; rw [← Ny585.out] at ho; refine Y2 ?_ (Aside0.mk (hb)) (Aside0.mk (ho)); clear HB HO_5 ho hb hg hat; intro HB HO587)
 first | go_roundg k1 | ((simp only [add_plain] at *); go_roundg k1)
 case measure => have := HK1.out; omega
 case rel => exact ⟨(y585), (wrap64 (x11_1 + 1)), Zq, H', ⟨by have := HK1.out; omega⟩, ⟨Zr HO587.out⟩, ⟨Zh⟩⟩
end Go.Proofs.Ytiimbndjggebdaa.Q
