/- Printed by a program of ours (wip/tools/myprint.py) out of the translation: for Go functions of this seat plain Lean functions, and proofs that the calls come to what these say. Conditions: none. -/
import Derived.Test.YtiimbndjggebdaaC9Q0
import Derived.Test.YtiimbndjggebdaaC9S
namespace Go.Proofs.Ytiimbndjggebdaa.Q
open Go.RowKit Go.Proofs.YtiimbndjggebdaaW.PrintWords Go.Proofs.YtiimbndjggebdaaW.PrintLast Go.Proofs.YtiimbndjggebdaaW.PrintMore
attribute [local go_sem] max2_int min2_int max_two min_two max_three min_three max_four min_four   -- for this text's walks alone
set_option linter.unusedVariables false
set_option linter.unusedSimpArgs false
mutual
def spec_l2Before.l0 : Nat → List Int → List Int → Int → Option (Bool)
  | 0, _, _, _ => none
  | k + 1, x0, x1, x5 => if x5 < (x0.length : Int) then (spec_l2Before.j1 k x0 x1 x5 (decide (x5 < (x1.length : Int)))) else (spec_l2Before.j1 k x0 x1 x5 false)
def spec_l2Before.j1 : Nat → List Int → List Int → Int → Bool → Option (Bool)
  | 0, _, _, _, _ => none
  | k + 1, x0, x1, x5, x15 => if x15 = true then (if 0 ≤ x5 then (if x5 < (x0.length : Int) then (if x5 < (x1.length : Int) then (if (rd x0 x5) = (rd x1 x5) then (spec_l2Before.l0 k x0 x1 (wrap64 (x5 + 1))) else (some (decide ((rd x0 x5) < (rd x1 x5))))) else (none)) else (none)) else (none)) else (some (decide ((x0.length : Int) < (x1.length : Int))))
end
def spec_l2Before.f (k : Nat) (l0 : List Int) (l1 : List Int) : Option (Bool) := spec_l2Before.l0 k l0 l1 0
set_option maxHeartbeats 8000000 in
set_option maxRecDepth 100000 in
theorem spec_l2Before.calls (k : Nat) (A0 : Option Addr) (c0 : Nat) (l0 : List Int) (A1 : Option Addr) (c1 : Nat) (l1 : List Int) (r : Bool) (w : World) (hr0 : Kd.C (Kd.int .i64) w A0 l0.length l0) (hc0 : l0.length ≤ c0) (hr1 : Kd.C (Kd.int .i64) w A1 l1.length l1) (hc1 : l1.length ≤ c1) (h : spec_l2Before.f k l0 l1 = some r) :
    Calls Try.prog 122 #[.slice A0 l0.length c0, .slice A1 l1.length c1] w fun e w' => e = .returned (.bool r) ∧ Drawn0 w w' := by
 have HR0 := Aside0.mk hr0; have HC0 := Aside0.mk hc0; clear hr0 hc0; have HR1 := Aside0.mk hr1; have HC1 := Aside0.mk hc1; clear hr1 hc1; have H : (spec_l2Before.l0 k l0 l1 0) = some r := h; clear h; have H' := Aside0.mk H; clear H; go_enter Try.func122, Try.ntmps122; go_wp2
 repeat (go_quiet (fail); try go_wp2)
 go_loopg [5] k (fun kq v5 w' => ∃ (x5_1 : Int), v5 = .int .i64 x5_1 ∧ Aside0 (spec_l2Before.l0 kq l0 l1 x5_1 = some r) ∧ Aside0 (kq ≤ k) ∧ Drawn0 w w')
 case atStart => exact ⟨(0), Zq, H', ⟨Nat.le_refl _⟩, Zd⟩
 clear H'
 try clear c1
 try clear p2
 obtain ⟨x5_1, rfl, HA, HK1, ⟨m1, rfl⟩⟩ := hrel; rcases gk with _ | k1
 ·exact absurd HA.out (by simp [spec_l2Before.l0])
 have H := HA.out; clear HA; simp only [spec_l2Before.l0] at H; have HC3 := Aside0.mk H; clear H; go_upto_region 2 with (fail)
 repeat (go_quiet (fail); go_upto_region 2 with (fail))
 go_cut [15] (fun v15 wc => ∃ (kq : Nat) (x15_2 : Bool), v15 = .bool x15_2 ∧ Aside0 (spec_l2Before.j1 kq l0 l1 x5_1 x15_2 = some r) ∧ Aside0 (kq ≤ k1) ∧ Drawn0 w wc)
 case first =>
  have H := HC3.out; clear HC3; by_cases c4 : x5_1 < (l0.length : Int); rotate_left
  ·rw [if_neg c4] at H; have c4b0 := decide_eq_false c4; clear c4; (first | rw [c4b0] | (simp only [i64_w, i32_w]; rw [c4b0]) | skip); have H' := Aside0.mk H; clear H; go_wp2
   repeat (go_quiet (fail); try go_wp2)
   go_meet
   case rel => exact ⟨_, (false), Zq, H', ⟨by have := HK1.out; first | omega | exact Nat.le_refl _⟩, Zd⟩
  rw [if_pos c4] at H; have c4b0 := decide_eq_true c4; clear c4; (first | rw [c4b0] | (simp only [i64_w, i32_w]; rw [c4b0]) | skip); have H' := Aside0.mk H; clear H; go_wp2
  repeat (go_quiet (fail); try go_wp2)
  go_meet
  case rel => exact ⟨_, (decide (x5_1 < (l1.length : Int))), Zq, H', ⟨by have := HK1.out; first | omega | exact Nat.le_refl _⟩, Zd⟩
 clear HC3
 try clear c1
 try clear p2
 try clear c4
 try clear c4b0
 try clear p2
 obtain ⟨kq, x15_2, rfl, HA, HJ2, ⟨mc2, rfl⟩⟩ := hcut; rcases kq with _ | kj2
 ·exact absurd HA.out (by simp [spec_l2Before.j1])
 have H := HA.out; clear HA; simp only [spec_l2Before.j1] at H; by_cases c5 : x15_2 = true; rotate_left
 ·replace c5 := Bool.eq_false_iff.mpr c5; subst c5; have H1 : (some (decide ((l0.length : Int) < (l1.length : Int)))) = some r := by rw [if_neg (show ¬ (false = true) by decide)] at H; exact H
  clear H; have H := H1; clear H1; obtain rfl := Option.some.inj H; go_wp2
  repeat (go_quiet (fail); try go_wp2)
  go_ret; exact ⟨Zq, Zd⟩
 subst c5; have H1 : (if 0 ≤ x5_1 then (if x5_1 < (l0.length : Int) then (if x5_1 < (l1.length : Int) then (if (rd l0 x5_1) = (rd l1 x5_1) then (spec_l2Before.l0 kj2 l0 l1 (wrap64 (x5_1 + 1))) else (some (decide ((rd l0 x5_1) < (rd l1 x5_1))))) else (none)) else (none)) else (none)) = some r := by rw [if_pos rfl] at H; exact H
 clear H; have H := H1; clear H1; replace H := Zu H; obtain ⟨c6, H⟩ := H; have c6b0 := decide_eq_true c6; clear c6; replace H := Zu H; obtain ⟨c7, H⟩ := H; have c7b0 := decide_eq_true c7; clear c7; replace H := Zu H; obtain ⟨c8, H⟩ := H; have c8b0 := decide_eq_true c8; clear c8; by_cases c9 : (rd l0 x5_1) = (rd l1 x5_1)
 ·rw [if_pos c9] at H; have c9b0 : ((rd l0 x5_1) == (rd l1 x5_1)) = true := beq_iff_eq.mpr c9; have c9b1 : ((rd l0 x5_1) != (rd l1 x5_1)) = false := bne_eq_false_iff_eq.mpr c9; clear c9; have H' := Aside0.mk H; clear H; have p108 : 0 ≤ (x5_1 : Int) := Zf; have q108 : x5_1 < (l0.length : Int) := Zf; obtain ⟨ad108, e108, hx108_0⟩ := Kd.at_int HR0.out x5_1 p108 q108; cases e108; replace p108 := eq_true p108; replace q108 := eq_true q108; have p109 : 0 ≤ (x5_1 : Int) := Zf; have q109 : x5_1 < (l1.length : Int) := Zf; obtain ⟨ad109, e109, hx109_0⟩ := Kd.at_int HR1.out x5_1 p109 q109; cases e109; replace p109 := eq_true p109; replace q109 := eq_true q109; go_wp2
  repeat (go_quiet (fail); try go_wp2)
  first | go_roundg kj2 | ((simp only [add_plain] at *); go_roundg kj2)
  case measure => have := HK1.out; have := HJ2.out; omega
  case rel => exact ⟨(wrap64 (x5_1 + 1)), Zq, H', ⟨by have := HK1.out; have := HJ2.out; omega⟩, Zd⟩
 rw [if_neg c9] at H; have c9b0 : ((rd l0 x5_1) == (rd l1 x5_1)) = false := beq_eq_false_iff_ne.mpr c9; have c9b1 : ((rd l0 x5_1) != (rd l1 x5_1)) = true := bne_iff_ne.mpr c9; obtain rfl := Option.some.inj H; have p108 : 0 ≤ (x5_1 : Int) := Zf; have q108 : x5_1 < (l0.length : Int) := Zf; obtain ⟨ad108, e108, hx108_0⟩ := Kd.at_int HR0.out x5_1 p108 q108; cases e108; replace p108 := eq_true p108; replace q108 := eq_true q108; have p109 : 0 ≤ (x5_1 : Int) := Zf; have q109 : x5_1 < (l1.length : Int) := Zf; obtain ⟨ad109, e109, hx109_0⟩ := Kd.at_int HR1.out x5_1 p109 q109; cases e109; replace p109 := eq_true p109; replace q109 := eq_true q109; have p110 : 0 ≤ (x5_1 : Int) := Zf; have q110 : x5_1 < (l0.length : Int) := Zf; obtain ⟨ad110, e110, hx110_0⟩ := Kd.at_int HR0.out x5_1 p110 q110; obtain rfl : ad108 = ad110 := (by injection e110); replace p110 := eq_true p110; replace q110 := eq_true q110; have p111 : 0 ≤ (x5_1 : Int) := Zf; have q111 : x5_1 < (l1.length : Int) := Zf; obtain ⟨ad111, e111, hx111_0⟩ := Kd.at_int HR1.out x5_1 p111 q111; obtain rfl : ad109 = ad111 := (by injection e111); replace p111 := eq_true p111; replace q111 := eq_true q111; go_wp2
 repeat (go_quiet (fail); try go_wp2)
 go_ret; exact ⟨Zq, Zd⟩
def spec_l2Edge.f (a0_0 : Int) (a0_1 : Int) (a1_0 : Int) (a1_1 : Int) : Option (Bool) := if a0_0 < a1_0 then (some true) else (if a0_0 = a1_0 then (some (decide (a0_1 < a1_1))) else (some false))
set_option maxHeartbeats 8000000 in
set_option maxRecDepth 100000 in
theorem spec_l2Edge.calls (a0_0 : Int) (a0_1 : Int) (a1_0 : Int) (a1_1 : Int) (r : Bool) (w : World) (h : spec_l2Edge.f a0_0 a0_1 a1_0 a1_1 = some r) :
    Calls Try.prog 151 #[.agg #[.int .i64 a0_0, .int .i64 a0_1], .agg #[.int .i64 a1_0, .int .i64 a1_1]] w fun e w' => e = .returned (.bool r) ∧ Below w.heap.size w w' := by
 have hu52 := Try.underlying52; have HB := Aside0.mk (Below.refl w.heap.size w); have H : (if a0_0 < a1_0 then (some true) else (if a0_0 = a1_0 then (some (decide (a0_1 < a1_1))) else (some false))) = some r := h; clear h; by_cases c3 : a0_0 < a1_0
 ·rw [if_pos c3] at H; have c3b0 := decide_eq_true c3; clear c3; obtain rfl := Option.some.inj H; go_enter Try.func151, Try.ntmps151; go_wp2_with (first | ((with_reducible refine ZD 2 rfl ?_); refine Zx #[.int .i64 a0_0, .int .i64 a0_1] 52 ?_; intro gb112 hg w4 hbox hb; refine Y4 ?_ (Zy Zh hb) (Aside0.mk hbox) (Zg hg (below_size Zh)) (Zg hg (below_size Zh)); clear HB hb hbox hg; intro HB BK112 GW112 GE112) | ((with_reducible refine ZD 3 rfl ?_); refine Zx #[.int .i64 a1_0, .int .i64 a1_1] 52 ?_; intro gb113 hg w5 hbox hb; refine Y7 ?_ (Zw (Zb BK112.out) hb) (Zy Zi hb) (Aside0.mk hbox) (Zg hg (below_size Zi)) (Zg hg (below_size Zi)) (Zl hg (Zb BK112.out)) (Zo hg (Zb BK112.out)); clear BK112 HB hb hbox hg; intro BK112 HB BK113 GW113 GE113 NB112_113 NB113_112; have hnb6 := NB112_113.out; have hnc6 := NB113_112.out; have hcz7_0 := Z0 BK112; have hcz7_1 := Z1 BK112; have hfz7_0 := Zz BK112 0; have hfz7_1 := Zz BK112 1; have hcz8_0 := Z0 BK113; have hcz8_1 := Z1 BK113; have hfz8_0 := Zz BK113 0; have hfz8_1 := Zz BK113 1)); go_ret; exact ⟨Ze, Zi⟩
 rw [if_neg c3] at H; have c3b0 := decide_eq_false c3; clear c3; by_cases c9 : a0_0 = a1_0; rotate_left
 ·rw [if_neg c9] at H; have c9b0 : (a0_0 == a1_0) = false := beq_eq_false_iff_ne.mpr c9; have c9b1 : (a0_0 != a1_0) = true := bne_iff_ne.mpr c9; obtain rfl := Option.some.inj H; go_enter Try.func151, Try.ntmps151; go_wp2_with (first | ((with_reducible refine ZD 2 rfl ?_); refine Zx #[.int .i64 a0_0, .int .i64 a0_1] 52 ?_; intro gb112 hg w15 hbox hb; refine Y4 ?_ (Zy Zh hb) (Aside0.mk hbox) (Zg hg (below_size Zh)) (Zg hg (below_size Zh)); clear HB hb hbox hg; intro HB BK112 GW112 GE112) | ((with_reducible refine ZD 3 rfl ?_); refine Zx #[.int .i64 a1_0, .int .i64 a1_1] 52 ?_; intro gb113 hg w16 hbox hb; refine Y7 ?_ (Zw (Zb BK112.out) hb) (Zy Zi hb) (Aside0.mk hbox) (Zg hg (below_size Zi)) (Zg hg (below_size Zi)) (Zl hg (Zb BK112.out)) (Zo hg (Zb BK112.out)); clear BK112 HB hb hbox hg; intro BK112 HB BK113 GW113 GE113 NB112_113 NB113_112; have hnb17 := NB112_113.out; have hnc17 := NB113_112.out; have hcz18_0 := Z0 BK112; have hcz18_1 := Z1 BK112; have hfz18_0 := Zz BK112 0; have hfz18_1 := Zz BK112 1; have hcz19_0 := Z0 BK113; have hcz19_1 := Z1 BK113; have hfz19_0 := Zz BK113 0; have hfz19_1 := Zz BK113 1)); go_ret; exact ⟨Ze, Zi⟩
 rw [if_pos c9] at H; have c9b0 : (a0_0 == a1_0) = true := beq_iff_eq.mpr c9; have c9b1 : (a0_0 != a1_0) = false := bne_eq_false_iff_eq.mpr c9; clear c9; obtain rfl := Option.some.inj H; go_enter Try.func151, Try.ntmps151; go_wp2_with (first | ((with_reducible refine ZD 2 rfl ?_); refine Zx #[.int .i64 a0_0, .int .i64 a0_1] 52 ?_; intro gb112 hg w10 hbox hb; refine Y4 ?_ (Zy Zh hb) (Aside0.mk hbox) (Zg hg (below_size Zh)) (Zg hg (below_size Zh)); clear HB hb hbox hg; intro HB BK112 GW112 GE112) | ((with_reducible refine ZD 3 rfl ?_); refine Zx #[.int .i64 a1_0, .int .i64 a1_1] 52 ?_; intro gb113 hg w11 hbox hb; refine Y7 ?_ (Zw (Zb BK112.out) hb) (Zy Zi hb) (Aside0.mk hbox) (Zg hg (below_size Zi)) (Zg hg (below_size Zi)) (Zl hg (Zb BK112.out)) (Zo hg (Zb BK112.out)); clear BK112 HB hb hbox hg; intro BK112 HB BK113 GW113 GE113 NB112_113 NB113_112; have hnb12 := NB112_113.out; have hnc12 := NB113_112.out; have hcz13_0 := Z0 BK112; have hcz13_1 := Z1 BK112; have hfz13_0 := Zz BK112 0; have hfz13_1 := Zz BK112 1; have hcz14_0 := Z0 BK113; have hcz14_1 := Z1 BK113; have hfz14_0 := Zz BK113 0; have hfz14_1 := Zz BK113 1)); go_ret; exact ⟨Ze, Zi⟩
end Go.Proofs.Ytiimbndjggebdaa.Q
