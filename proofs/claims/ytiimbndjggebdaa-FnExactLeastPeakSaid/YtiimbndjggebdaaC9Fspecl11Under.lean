/- Printed by a program of ours (wip/tools/myprint.py) out of the translation: for Go functions of this seat plain Lean functions, and proofs that the calls come to what these say. Conditions: none. -/
import Derived.Test.YtiimbndjggebdaaC9Q0
import Derived.Test.YtiimbndjggebdaaC9S
namespace Go.Proofs.Ytiimbndjggebdaa.Q
open Go.RowKit Go.Proofs.YtiimbndjggebdaaW.PrintWords Go.Proofs.YtiimbndjggebdaaW.PrintLast Go.Proofs.YtiimbndjggebdaaW.PrintMore
attribute [local go_sem] max2_int min2_int max_two min_two max_three min_three max_four min_four   -- for this text's walks alone
set_option linter.unusedVariables false
set_option linter.unusedSimpArgs false
def spec_l11Under.l0 : Nat → List Int → Int → List Int → Int → Option (List Int)
  | 0, _, _, _, _ => none
  | k + 1, x0, x1, x5, x6 => if x6 < (x0.length : Int) then (if 0 ≤ x6 then (if (rd x0 x6) ≤ x1 then (if x5.length < 17592186044416 then (spec_l11Under.l0 k x0 x1 (x5 ++ [x6]) (wrap64 (x6 + 1))) else (none)) else (spec_l11Under.l0 k x0 x1 x5 (wrap64 (x6 + 1)))) else (none)) else (some x5)
def spec_l11Under.f (k : Nat) (l0 : List Int) (a1 : Int) : Option (List Int) := spec_l11Under.l0 k l0 a1 (([] : List Int)) 0
set_option maxHeartbeats 8000000 in
set_option maxRecDepth 100000 in
theorem spec_l11Under.calls (k : Nat) (A0 : Option Addr) (c0 : Nat) (l0 : List Int) (a1 : Int) (r : List Int) (w : World) (hr0 : Kd.C (Kd.int .i64) w A0 l0.length l0) (hc0 : l0.length ≤ c0) (h : spec_l11Under.f k l0 a1 = some r) :
    Calls Try.prog 65 #[.slice A0 l0.length c0, .int .i64 a1] w fun e w' => ∃ v0_ : Value, e = .returned (v0_) ∧ Kd.R (Kd.int .i64) 3 w' w.heap.size (fun _ => True) v0_ r ∧ Below w.heap.size w w' := by
 have HR0 := Aside0.mk hr0; have HC0 := Aside0.mk hc0; clear hr0 hc0; have HB := Aside0.mk (Below.refl w.heap.size w); have H : (spec_l11Under.l0 k l0 a1 (([] : List Int)) 0) = some r := h; clear h; obtain ⟨y517, hy517⟩ : ∃ y_ : List Int, y_ = (([] : List Int)) := ⟨_, rfl⟩; replace H : (spec_l11Under.l0 k l0 a1 y517 0) = some r := ZH hy517 H; have Ny517 := Aside0.mk hy517; clear hy517; have H' := Aside0.mk H; clear H; go_enter Try.func65, Try.ntmps65; go_wp2_with ((with_reducible refine ZD 7 rfl ?_); refine Kd.R_lit (Kd.int .i64) _ 3 ?hg (N := 7) ?hd (xs := ([] : List Int)) (inner := []) (ok := fun _ => True) (okp := fun _ => True) ?hr ?hp (fun _ hk => hk) trivial (Below.refl _ _) (Nat.le_refl _) (by simp) ?_; (case hd => rfl); (case hg => rfl); (case hr => first | (go_simp; done) | (go_simp; rfl)); (case hp => exact (Reps.none _ _)); intro v518 w3 ho4 hb hg_ hnew_; clear hg_ hnew_; (first | rw [← Ny517.out] at ho4 | (simp only [Int.reduceToNat] at ho4; rw [← Ny517.out] at ho4)); refine Y2 ?_ (Aside0.mk (Kd.R_lower ho4 (below_size Zh))) (Zy Zh hb); clear HB hb ho4; intro HO519 HB); go_loopg [5, 6] k (fun kq v5 v6 w' => ∃ (x5_1 : List Int) (x6_1 : Int), v6 = .int .i64 x6_1 ∧ Aside0 (spec_l11Under.l0 kq l0 a1 x5_1 x6_1 = some r) ∧ Aside0 (kq ≤ k) ∧ Aside0 (Kd.R (Kd.int .i64) 3 w' w.heap.size (fun _ => True) v5 x5_1) ∧ Aside0 (Below w.heap.size w w'))
 case atStart => exact ⟨(y517), (0), Zq, H', ⟨Nat.le_refl _⟩, ⟨Zr HO519.out⟩, ⟨Zh⟩⟩
 clear H'
 try clear p2
 obtain ⟨x5_1, x6_1, rfl, HA, HK1, HO_5, HB⟩ := hrel; rcases gk with _ | k1
 ·exact absurd HA.out (by simp [spec_l11Under.l0])
 have H := HA.out; clear HA; simp only [spec_l11Under.l0] at H; by_cases c5 : x6_1 < (l0.length : Int); rotate_left
 ·rw [if_neg c5] at H; have c5b0 := decide_eq_false c5; clear c5; obtain rfl := Option.some.inj H; go_wp2; go_ret; exact ⟨_, Ze, Zr HO_5.out, Zh⟩
 rw [if_pos c5] at H; have c5b0 := decide_eq_true c5; clear c5; replace H := Zu H; obtain ⟨c6, H⟩ := H; have c6b0 := decide_eq_true c6; clear c6; by_cases c7 : (rd l0 x6_1) ≤ a1; rotate_left
 ·rw [if_neg c7] at H; have c7b0 := decide_eq_false c7; clear c7; have H' := Aside0.mk H; clear H; have p520 : 0 ≤ (x6_1 : Int) := Zf; have q520 : x6_1 < (l0.length : Int) := Zf; obtain ⟨ad520, e520, hx520_0⟩ := Kd.at_int HR0.out x6_1 p520 q520; cases e520; replace hx520_0 := Z3 HB hx520_0; replace p520 := eq_true p520; replace q520 := eq_true q520; go_wp2
  first | go_roundg k1 | ((simp only [add_plain] at *); go_roundg k1)
  case measure => have := HK1.out; omega
  case rel => exact ⟨(x5_1), (wrap64 (x6_1 + 1)), Zq, H', ⟨by have := HK1.out; omega⟩, ⟨Zr HO_5.out⟩, ⟨Zh⟩⟩
 rw [if_pos c7] at H; have c7b0 := decide_eq_true c7; clear c7; replace H := Zu H; obtain ⟨c8, H⟩ := H; have LMc8 := Aside0.mk c8; clear c8; obtain ⟨y521, hy521⟩ : ∃ y_ : List Int, y_ = (x5_1 ++ [x6_1]) := ⟨_, rfl⟩; replace H : (spec_l11Under.l0 k1 l0 a1 y521 (wrap64 (x6_1 + 1))) = some r := ZH hy521 H; have Ny521 := Aside0.mk hy521; clear hy521; have H' := Aside0.mk H; clear H; have p520 : 0 ≤ (x6_1 : Int) := Zf; have q520 : x6_1 < (l0.length : Int) := Zf; obtain ⟨ad520, e520, hx520_0⟩ := Kd.at_int HR0.out x6_1 p520 q520; cases e520; replace hx520_0 := Z3 HB hx520_0; replace p520 := eq_true p520; replace q520 := eq_true q520; go_wp2_with ((with_reducible refine gate_builtin (b := .append) (xs := #[.tmp 20, .tmp 22]) rfl ?_); at_builtin; refine Kd.R_append (Kd.int .i64) (w0 := w) w.heap.size rfl (.tmp 20) (.tmp 22) 26 3 (.int .i64 0) 8 rfl Try.underlying26 info3 rfl (by decide) (by omega) u5 x5_1 x6_1 [.int .i64 x6_1] (fun _ => True) (fun _ => False) rfl rfl ?aP (fun _ hk => hk.elim) ?aF ?aO ?aB ?aS ?aL ?_; (case aP => exact rfl); (case aB => exact Zh); (case aF => exact (fun _ _ => trivial)); (case aO => exact (Zr HO_5.out)); (case aS => exact (below_size Zh)); (case aL => have := LMc8.out; omega); intro v522 w9 ho hb hg hat; rw [← Ny521.out] at ho; refine Y2 ?_ (Aside0.mk (hb)) (Aside0.mk (ho)); clear HB HO_5 ho hb hg hat; intro HB HO523)
 first | go_roundg k1 | ((simp only [add_plain] at *); go_roundg k1)
 case measure => have := HK1.out; omega
 case rel => exact ⟨(y521), (wrap64 (x6_1 + 1)), Zq, H', ⟨by have := HK1.out; omega⟩, ⟨Zr HO523.out⟩, ⟨Zh⟩⟩
end Go.Proofs.Ytiimbndjggebdaa.Q
