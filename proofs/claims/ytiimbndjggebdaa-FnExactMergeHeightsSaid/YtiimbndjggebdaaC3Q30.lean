/- Printed by a program of ours (wip/tools/myprint.py) out of the translation: for Go functions of this seat plain Lean functions, and proofs that the calls come to what these say. Conditions: none. -/
import Derived.Test.YtiimbndjggebdaaC3Q0
import Derived.Test.YtiimbndjggebdaaC3Q25
import Derived.Test.YtiimbndjggebdaaC3Q27
import Derived.Test.YtiimbndjggebdaaC3Q28
import Derived.Test.YtiimbndjggebdaaC3Q29
import Derived.Test.YtiimbndjggebdaaC3S
namespace Go.Proofs.Ytiimbndjggebdaa.Q
open Go.RowKit Go.Proofs.YtiimbndjggebdaaW.PrintWords Go.Proofs.YtiimbndjggebdaaW.PrintLast Go.Proofs.YtiimbndjggebdaaW.PrintMore
attribute [local go_sem] max2_int min2_int max_two min_two max_three min_three max_four min_four   -- for this text's walks alone
set_option linter.unusedVariables false
set_option linter.unusedSimpArgs false
mutual
def spec_MergeHeights.l0 : Nat → List Int → List Int → Int → Int → List (List Int) → List (S52) → Option (List Int × Bool)
  | 0, _, _, _, _, _, _ => none
  | k + 1, x1, x6, x7, x8, x536000, x536001 => if x8 ≤ 999 then (spec_MergeHeights.l1 k x1 x6 x7 x8 0 0 x536000 x536001) else (some (x6, true))
def spec_MergeHeights.l1 : Nat → List Int → List Int → Int → Int → Int → Int → List (List Int) → List (S52) → Option (List Int × Bool)
  | 0, _, _, _, _, _, _, _, _ => none
  | k + 1, x1, x6, x7, x8, x9, x10, x536000, x536001 => if x10 < (x1.length : Int) then (if 0 ≤ x10 then (if (rd x1 x10) = x8 then (spec_MergeHeights.l1 k x1 x6 x7 x8 (wrap64 (x9 + 1)) (wrap64 (x10 + 1)) x536000 x536001) else (spec_MergeHeights.l1 k x1 x6 x7 x8 x9 (wrap64 (x10 + 1)) x536000 x536001)) else (none)) else (if x9 = 0 then (spec_MergeHeights.l0 k x1 x6 x7 (wrap64 (x8 + 1)) x536000 x536001) else ((spec_l11Under.f k x1 x8).bind fun t541 => ((spec_l2Induced.f k x536000 x536001 t541).bind fun bt544 => ((spec_l2Parts.f k bt544.1 bt544.2).bind fun t550 => (spec_MergeHeights.l2 k x1 x6 x8 (t550.length : Int) (wrap64 ((wrap64 (x7 + x9)) - (t550.length : Int))) x536000 x536001)))))
def spec_MergeHeights.l2 : Nat → List Int → List Int → Int → Int → Int → List (List Int) → List (S52) → Option (List Int × Bool)
  | 0, _, _, _, _, _, _, _ => none
  | k + 1, x1, x6, x8, x11, x12, x536000, x536001 => if x12 > 0 then (if x6.length < 17592186044416 then (spec_MergeHeights.l2 k x1 (x6 ++ [x8]) x8 x11 (wrap64 (x12 - 1)) x536000 x536001) else (none)) else (spec_MergeHeights.l0 k x1 x6 x11 (wrap64 (x8 + 1)) x536000 x536001)
end
def spec_MergeHeights.f (k : Nat) (l0_0 : List (List Int)) (l0_1 : List (S52)) (l1 : List Int) : Option (List Int × Bool) := (some (([] : List Int) : List Int)).bind fun y536 => ((spec_l11Heights.f k l0_0 l0_1 l1).bind fun t539 => (if t539 = true then (spec_MergeHeights.l0 k l1 y536 0 0 l0_0 l0_1) else (some (y536, false))))
def spec_MergeHeights.T15 : Bool × List (List Nat × List Nat) := (true, [([], []), ([], []), ([], []), ([1, 2], [1, 2]), ([0, 3, 3], [0, 3]), ([4, 4], [4]), ([5], [5]), ([6, 5, 0, 1, 2, 3, 4, 5, 6], [6])])
def spec_MergeHeights.B15 : List Nat := [0, 0, 0, 6, 15, 31, 63, 127]
theorem spec_MergeHeights.tab15 : rtab .any (opsOf Try.f22 15) = spec_MergeHeights.T15 := by kernel_rfl
theorem spec_MergeHeights.bits15 : waitsOk spec_MergeHeights.T15.2 spec_MergeHeights.B15 = true := by kernel_rfl
set_option maxHeartbeats 8000000 in
set_option maxRecDepth 100000 in
theorem spec_MergeHeights.calls (k : Nat) (A0_0 : Option Addr) (c0_0 : Nat) (l0_0 : List (List Int)) (A0_1 : Option Addr) (c0_1 : Nat) (l0_1 : List (S52)) (A1 : Option Addr) (c1 : Nat) (l1 : List Int) (r1 : List Int) (r2 : Bool) (w : World) (hr0_0 : Kd.C (Kd.slice 3 (Kd.int .i64)) w A0_0 l0_0.length l0_0) (hc0_0 : l0_0.length ≤ c0_0) (hr0_1 : Kd.C k52 w A0_1 l0_1.length l0_1) (hc0_1 : l0_1.length ≤ c0_1) (hr1 : Kd.C (Kd.int .i64) w A1 l1.length l1) (hc1 : l1.length ≤ c1) (h : spec_MergeHeights.f k l0_0 l0_1 l1 = some (r1, r2)) :
    Calls Try.prog 22 #[.agg #[.slice A0_0 l0_0.length c0_0, .slice A0_1 l0_1.length c0_1], .slice A1 l1.length c1] w fun e w' => ∃ v0_ : Value, e = .returned (.tuple #[v0_, .bool r2]) ∧ Kd.R (Kd.int .i64) 3 w' w.heap.size (fun _ => True) v0_ r1 ∧ Below w.heap.size w w' := by
 have hu30 := Try.underlying30; have HR0_0 := Aside0.mk hr0_0; have HC0_0 := Aside0.mk hc0_0; clear hr0_0 hc0_0; have HR0_1 := Aside0.mk hr0_1; have HC0_1 := Aside0.mk hc0_1; clear hr0_1 hc0_1; have HR1 := Aside0.mk hr1; have HC1 := Aside0.mk hc1; clear hr1 hc1; have HB := Aside0.mk (Below.refl w.heap.size w); have H : ((some (([] : List Int) : List Int)).bind fun y536 => ((spec_l11Heights.f k l0_0 l0_1 l1).bind fun t539 => (if t539 = true then (spec_MergeHeights.l0 k l1 y536 0 0 l0_0 l0_1) else (some (y536, false))))) = some (r1, r2) := h; clear h; obtain ⟨y536, hy536⟩ : ∃ y_ : List Int, y_ = (([] : List Int)) := ⟨_, rfl⟩; replace H : ((spec_l11Heights.f k l0_0 l0_1 l1).bind fun t539 => (if t539 = true then (spec_MergeHeights.l0 k l1 y536 0 0 l0_0 l0_1) else (some (y536, false)))) = some (r1, r2) := ZH hy536 H; have Ny536 := Aside0.mk hy536; clear hy536; replace H := Option.bind_eq_some_iff.mp H; obtain ⟨t539, A30, H⟩ := H; replace H : (if t539 = true then (spec_MergeHeights.l0 k l1 y536 0 0 l0_0 l0_1) else (some (y536, false))) = some (r1, r2) := H; have A3 := Aside0.mk A30; clear A30; by_cases c4 : t539 = true; rotate_left
 ·replace c4 := Bool.eq_false_iff.mpr c4; subst c4; have H1 : (some (y536, false)) = some (r1, r2) := by rw [if_neg (show ¬ (false = true) by decide)] at H; exact H
  clear H; have H := H1; clear H1; simp only [Option.some.injEq, Prod.mk.injEq] at H; obtain ⟨rfl, rfl⟩ := H; go_enter Try.func22, Try.ntmps22; go_wp2_with (first | ((with_reducible refine ZD 2 rfl ?_); refine Zx #[.slice A0_0 l0_0.length c0_0, .slice A0_1 l0_1.length c0_1] 30 ?_; intro gb535 hg w29 hbox hb; refine Y4 ?_ (Zy Zh hb) (Aside0.mk hbox) (Zg hg (below_size Zh)) (Zg hg (below_size Zh)); clear HB hb hbox hg; intro HB BK535 GW535 GE535) | ((with_reducible refine ZD 13 rfl ?_); refine Kd.R_lit (Kd.int .i64) _ 3 ?hg (N := 13) ?hd (xs := ([] : List Int)) (inner := []) (ok := fun _ => True) (okp := fun _ => True) ?hr ?hp (fun _ hk => hk) trivial (Below.refl _ _) (Nat.le_refl _) (by simp) ?_; (case hd => rfl); (case hg => rfl); (case hr => first | (go_simp; done) | (go_simp; rfl)); (case hp => exact (Reps.none _ _)); intro v537 w30 ho31 hb hg_ hnew_; clear hg_ hnew_; (first | rw [← Ny536.out] at ho31 | (simp only [Int.reduceToNat] at ho31; rw [← Ny536.out] at ho31)); refine Y3 ?_ (Aside0.mk (Kd.R_lower ho31 (below_size Zi))) (Zw (Zb BK535.out) hb) (Zy Zi hb); clear BK535 HB hb ho31; intro HO538 BK535 HB; have hcz32_0 := Z0 BK535; have hcz32_1 := Z1 BK535; have hfz32_0 := Zz BK535 0; have hfz32_1 := Zz BK535 1) | ((with_reducible refine ZE 62 rfl ?_); refine Zc Try.func62 (some 16) #[.agg #[.slice A0_0 l0_0.length c0_0, .slice A0_1 l0_1.length c0_1], .slice A1 l1.length c1] ?_; refine (spec_l11Heights.calls k _ _ l0_0 _ _ l0_1 _ _ l1 false _ (Zj HR0_0.out) HC0_0.out (Zj HR0_1.out) HC0_1.out (Zj HR1.out) HC1.out A3.out).mono ?_; rintro e w33 ⟨rfl, hb⟩; refine ⟨_, rfl, ?_⟩; refine Y3 ?_ (Z4 (Zr HO538.out) hb) (Zw (Zb BK535.out) hb) (Zy Zi hb); clear HO538 BK535 HB; intro HO538 BK535 HB; (try clear hb); (try clear hb2); (try clear hk); (try clear hi))); go_ret2; exact ⟨_, Ze, Zr HO538.out, Zi⟩
 subst c4; have H1 : (spec_MergeHeights.l0 k l1 y536 0 0 l0_0 l0_1) = some (r1, r2) := by rw [if_pos rfl] at H; exact H
 clear H; have H := H1; clear H1; have H' := Aside0.mk H; clear H; go_enter Try.func22, Try.ntmps22; go_wp2_with (first | ((with_reducible refine ZD 2 rfl ?_); refine Zx #[.slice A0_0 l0_0.length c0_0, .slice A0_1 l0_1.length c0_1] 30 ?_; intro gb535 hg w5 hbox hb; refine Y4 ?_ (Zy Zh hb) (Aside0.mk hbox) (Zg hg (below_size Zh)) (Zg hg (below_size Zh)); clear HB hb hbox hg; intro HB BK535 GW535 GE535) | ((with_reducible refine ZD 13 rfl ?_); refine Kd.R_lit (Kd.int .i64) _ 3 ?hg (N := 13) ?hd (xs := ([] : List Int)) (inner := []) (ok := fun _ => True) (okp := fun _ => True) ?hr ?hp (fun _ hk => hk) trivial (Below.refl _ _) (Nat.le_refl _) (by simp) ?_; (case hd => rfl); (case hg => rfl); (case hr => first | (go_simp; done) | (go_simp; rfl)); (case hp => exact (Reps.none _ _)); intro v537 w6 ho7 hb hg_ hnew_; clear hg_ hnew_; (first | rw [← Ny536.out] at ho7 | (simp only [Int.reduceToNat] at ho7; rw [← Ny536.out] at ho7)); refine Y3 ?_ (Aside0.mk (Kd.R_lower ho7 (below_size Zi))) (Zw (Zb BK535.out) hb) (Zy Zi hb); clear BK535 HB hb ho7; intro HO538 BK535 HB; have hcz8_0 := Z0 BK535; have hcz8_1 := Z1 BK535; have hfz8_0 := Zz BK535 0; have hfz8_1 := Zz BK535 1) | ((with_reducible refine ZE 62 rfl ?_); refine Zc Try.func62 (some 16) #[.agg #[.slice A0_0 l0_0.length c0_0, .slice A0_1 l0_1.length c0_1], .slice A1 l1.length c1] ?_; refine (spec_l11Heights.calls k _ _ l0_0 _ _ l0_1 _ _ l1 true _ (Zj HR0_0.out) HC0_0.out (Zj HR0_1.out) HC0_1.out (Zj HR1.out) HC1.out A3.out).mono ?_; rintro e w9 ⟨rfl, hb⟩; refine ⟨_, rfl, ?_⟩; refine Y3 ?_ (Z4 (Zr HO538.out) hb) (Zw (Zb BK535.out) hb) (Zy Zi hb); clear HO538 BK535 HB; intro HO538 BK535 HB; (try clear hb); (try clear hb2); (try clear hk); (try clear hi))); go_loopg [6, 7, 8] k (fun kq v6 v7 v8 w' => ∃ (x6_1 : List Int) (x7_1 : Int) (x8_1 : Int), v7 = .int .i64 x7_1 ∧ v8 = .int .i64 x8_1 ∧ Aside0 (spec_MergeHeights.l0 kq l1 x6_1 x7_1 x8_1 l0_0 l0_1 = some (r1, r2)) ∧ Aside0 (kq ≤ k) ∧ Aside0 (Kd.R (Kd.int .i64) 3 w' w.heap.size (fun _ => True) v6 x6_1) ∧ Aside0 (w'.heap[gb535]? = some (.cells #[(.slice A0_0 l0_0.length c0_0), (.slice A0_1 l0_1.length c0_1)] 30 (0, 0))) ∧ Aside0 (Below w.heap.size w w'))
 case atStart => exact ⟨(y536), (0), (0), Zq, Zq, H', ⟨Nat.le_refl _⟩, ⟨Zr HO538.out⟩, ⟨Zb BK535.out⟩, ⟨Zi⟩⟩
 clear H'
 try clear c1
 try clear c2
 try clear p2
 try clear c4
 try clear c6
 try clear hcz8_0
 try clear hcz8_1
 try clear hfz8_0
 try clear hfz8_1
 obtain ⟨x6_1, x7_1, x8_1, rfl, rfl, HA, HK1, HO_6, BK535, HB⟩ := hrel; rcases gk with _ | k1
 ·exact absurd HA.out (by simp [spec_MergeHeights.l0])
 have H := HA.out; clear HA; simp only [spec_MergeHeights.l0] at H; by_cases c10 : x8_1 ≤ 999; rotate_left
 ·rw [if_neg c10] at H; have c10b0 := decide_eq_false c10; clear c10; simp only [Option.some.injEq, Prod.mk.injEq] at H; obtain ⟨rfl, rfl⟩ := H; go_wp2; go_ret2; exact ⟨_, Ze, Zr HO_6.out, Zi⟩
 rw [if_pos c10] at H; have c10b0 := decide_eq_true c10; clear c10; have H' := Aside0.mk H; clear H; go_wp2; go_loopg [9, 10] k1 (fun kq v9 v10 w' => ∃ (x9_2 : Int) (x10_2 : Int), v9 = .int .i64 x9_2 ∧ v10 = .int .i64 x10_2 ∧ Aside0 (spec_MergeHeights.l1 kq l1 x6_1 x7_1 x8_1 x9_2 x10_2 l0_0 l0_1 = some (r1, r2)) ∧ Aside0 (kq ≤ k1) ∧ Aside0 (Kd.R (Kd.int .i64) 3 w' w.heap.size (fun _ => True) u6 x6_1) ∧ Aside0 (w'.heap[gb535]? = some (.cells #[(.slice A0_0 l0_0.length c0_0), (.slice A0_1 l0_1.length c0_1)] 30 (0, 0))) ∧ Aside0 (Below w.heap.size w w'))
 case atStart => exact ⟨(0), (0), Zq, Zq, H', ⟨Nat.le_refl _⟩, ⟨Zr HO_6.out⟩, ⟨Zb BK535.out⟩, ⟨Zi⟩⟩
 clear H'
 try clear c1
 try clear c2
 try clear p2
 try clear c4
 try clear c6
 try clear c10
 try clear c10b0
 try clear hcz8_0
 try clear hcz8_1
 try clear hfz8_0
 try clear hfz8_1
 try clear p2
 obtain ⟨x9_2, x10_2, rfl, rfl, HA, HK2, HO_6, BK535, HB⟩ := hrel; rcases gk with _ | k2
 ·exact absurd HA.out (by simp [spec_MergeHeights.l1])
 have H := HA.out; clear HA; simp only [spec_MergeHeights.l1] at H; by_cases c11 : x10_2 < (l1.length : Int)
 ·rw [if_pos c11] at H; have c11b0 := decide_eq_true c11; clear c11; replace H := Zu H; obtain ⟨c12, H⟩ := H; have c12b0 := decide_eq_true c12; clear c12; by_cases c13 : (rd l1 x10_2) = x8_1; rotate_left
  ·rw [if_neg c13] at H; have c13b0 : ((rd l1 x10_2) == x8_1) = false := beq_eq_false_iff_ne.mpr c13; have c13b1 : ((rd l1 x10_2) != x8_1) = true := bne_iff_ne.mpr c13; have H' := Aside0.mk H; clear H; have p540 : 0 ≤ (x10_2 : Int) := Zf; have q540 : x10_2 < (l1.length : Int) := Zf; obtain ⟨ad540, e540, hx540_0⟩ := Kd.at_int HR1.out x10_2 p540 q540; cases e540; replace hx540_0 := Z3 HB hx540_0; replace p540 := eq_true p540; replace q540 := eq_true q540; go_wp2
   first | go_roundg k2 | ((simp only [add_plain] at *); go_roundg k2)
   case measure => have := HK1.out; have := HK2.out; omega
   case rel => exact ⟨(x9_2), (wrap64 (x10_2 + 1)), Zq, Zq, H', ⟨by have := HK1.out; have := HK2.out; omega⟩, ⟨Zr HO_6.out⟩, ⟨Zb BK535.out⟩, ⟨Zi⟩⟩
  rw [if_pos c13] at H; have c13b0 : ((rd l1 x10_2) == x8_1) = true := beq_iff_eq.mpr c13; have c13b1 : ((rd l1 x10_2) != x8_1) = false := bne_eq_false_iff_eq.mpr c13; clear c13; have H' := Aside0.mk H; clear H; have p540 : 0 ≤ (x10_2 : Int) := Zf; have q540 : x10_2 < (l1.length : Int) := Zf; obtain ⟨ad540, e540, hx540_0⟩ := Kd.at_int HR1.out x10_2 p540 q540; cases e540; replace hx540_0 := Z3 HB hx540_0; replace p540 := eq_true p540; replace q540 := eq_true q540; go_wp2
  first | go_roundg k2 | ((simp only [add_plain] at *); go_roundg k2)
  case measure => have := HK1.out; have := HK2.out; omega
  case rel => exact ⟨(wrap64 (x9_2 + 1)), (wrap64 (x10_2 + 1)), Zq, Zq, H', ⟨by have := HK1.out; have := HK2.out; omega⟩, ⟨Zr HO_6.out⟩, ⟨Zb BK535.out⟩, ⟨Zi⟩⟩
 rw [if_neg c11] at H; have c11b0 := decide_eq_false c11; clear c11; by_cases c14 : x9_2 = 0
 ·rw [if_pos c14] at H; have c14b0 : (x9_2 == 0) = true := beq_iff_eq.mpr c14; have c14b1 : (x9_2 != 0) = false := bne_eq_false_iff_eq.mpr c14; clear c14; have H' := Aside0.mk H; clear H; go_wp2
  first | go_roundg k2 | ((simp only [add_plain] at *); go_roundg k2)
  case measure => have := HK1.out; have := HK2.out; omega
  case rel => exact ⟨(x6_1), (x7_1), (wrap64 (x8_1 + 1)), Zq, Zq, H', ⟨by have := HK1.out; have := HK2.out; omega⟩, ⟨Zr HO_6.out⟩, ⟨Zb BK535.out⟩, ⟨Zi⟩⟩
 rw [if_neg c14] at H; have c14b0 : (x9_2 == 0) = false := beq_eq_false_iff_ne.mpr c14; have c14b1 : (x9_2 != 0) = true := bne_iff_ne.mpr c14; replace H := Option.bind_eq_some_iff.mp H; obtain ⟨t541, A150, H⟩ := H; replace H : ((spec_l2Induced.f k2 l0_0 l0_1 t541).bind fun bt544 => ((spec_l2Parts.f k2 bt544.1 bt544.2).bind fun t550 => (spec_MergeHeights.l2 k2 l1 x6_1 x8_1 (t550.length : Int) (wrap64 ((wrap64 (x7_1 + x9_2)) - (t550.length : Int))) l0_0 l0_1))) = some (r1, r2) := H; have A15 := Aside0.mk A150; clear A150; replace H := Option.bind_eq_some_iff.mp H; obtain ⟨⟨t544, t547⟩, A160, H⟩ := H; replace H : ((spec_l2Parts.f k2 t544 t547).bind fun t550 => (spec_MergeHeights.l2 k2 l1 x6_1 x8_1 (t550.length : Int) (wrap64 ((wrap64 (x7_1 + x9_2)) - (t550.length : Int))) l0_0 l0_1)) = some (r1, r2) := H; have A16 := Aside0.mk A160; clear A160; replace H := Option.bind_eq_some_iff.mp H; obtain ⟨t550, A170, H⟩ := H; replace H : (spec_MergeHeights.l2 k2 l1 x6_1 x8_1 (t550.length : Int) (wrap64 ((wrap64 (x7_1 + x9_2)) - (t550.length : Int))) l0_0 l0_1) = some (r1, r2) := H; have A17 := Aside0.mk A170; clear A170; have H' := Aside0.mk H; clear H
 try go_wp2
 refine Y3 ?_ (Aside0.mk (Kd.R_drew HO_6.out)) (Aside0.mk (blk_drew BK535.out)) (Aside0.mk (below_drew1 HB.out)); clear HO_6 BK535 HB; intro HO_6 BK535 HB; refine ZS 8 (fun w' => w'.cell? ⟨gb535, 0, none⟩ = some (.slice A0_0 l0_0.length c0_0) ∧ w'.cell? ⟨gb535, 1, none⟩ = some (.slice A0_1 l0_1.length c0_1)) [] ⟨Z0 BK535, Z1 BK535⟩ (fun hHeld => ?_); refine with_tabW spec_MergeHeights.tab15 spec_MergeHeights.bits15 (fun HT_ HW_ => ?_); generalize wr.drew = w18 at HO_6 BK535 HB hHeld ⊢; refine Zp 1 40 ?_; refine Zp 2 41 ?_; refine Zt 0 39 ?_; refine ZO 3 (some 42) (fun K hK => ?_); refine ZC Try.func65 #[.slice A1 l1.length c1, .int .i64 x8_1] ?_; (with_reducible refine (spec_l11Under.calls k2 _ _ l1 x8_1 t541 _ ?side1 ?side2 A15.out).mono ?_); (case side1 => repeat (first | exact (Kd.C_below HR1.out HB.out) | (with_reducible refine Kd.C_alloc ?_ _) | (with_reducible refine Kd.C_drewN ?_ _) | (with_reducible refine Kd.C_drew ?_))); (case side2 => exact HC1.out); rintro e w19 ⟨v542, rfl, ho0, hb⟩; refine ⟨_, rfl, ?_⟩; refine Y4 ?_ (Aside0.mk (Kd.R_elder' (Zr HO_6.out) (Kd.R_base ho0) hb)) (Aside0.mk (Kd.R_lower (Kd.R_new' ho0 (Kd.R_lt (Zr HO_6.out))) (below_size Zi))) (Zw (Zb BK535.out) hb) (Zy Zi hb); clear HO_6 BK535 HB; intro HO_6 HO543 BK535 HB; (try clear hb); (try clear hb2); (try clear hk); (try clear hi); (try clear ho0); obtain ⟨Ao20, co20, eo20⟩ := Kd.R_slice HO543.out; (first | subst eo20 | (injection eo20 with f1_ f2_ f3_; have f4_ := f1_.symm; have f5_ := f3_.symm; clear f1_ f2_ f3_; subst f4_; subst f5_)); refine hK.out _ _ ⟨Z0 BK535, Z1 BK535⟩ (fun hHeld => ?_); clear hK K; refine Zn ?_; refine ZO 4 (some 43) (fun K hK => ?_); refine ZC Try.func64 #[.agg #[.slice A0_0 l0_0.length c0_0, .slice A0_1 l0_1.length c0_1], .slice Ao20 t541.length co20] ?_; (with_reducible refine (spec_l2Induced.calls k2 _ _ l0_0 _ _ l0_1 _ _ t541 t544 t547 _ ?side1 ?side2 ?side3 ?side4 ?side5 ?side6 A16.out).mono ?_); (case side1 => repeat (first | exact (Kd.C_below HR0_0.out HB.out) | (with_reducible refine Kd.C_alloc ?_ _) | (with_reducible refine Kd.C_drewN ?_ _) | (with_reducible refine Kd.C_drew ?_))); (case side2 => exact HC0_0.out); (case side3 => repeat (first | exact (Kd.C_below HR0_1.out HB.out) | (with_reducible refine Kd.C_alloc ?_ _) | (with_reducible refine Kd.C_drewN ?_ _) | (with_reducible refine Kd.C_drew ?_))); (case side4 => exact HC0_1.out); (case side5 => repeat (first | exact (Kd.R_reads' HO543.out).2.2 | (with_reducible refine Kd.C_alloc ?_ _) | (with_reducible refine Kd.C_drewN ?_ _) | (with_reducible refine Kd.C_drew ?_))); (case side6 => exact (Kd.R_reads' HO543.out).2.1); rintro e w21 ⟨v545, v548, rfl, ho0, ho1, hb⟩; refine ⟨_, rfl, ?_⟩; refine Y6 ?_ (Z4 (Zr HO_6.out) hb) (Z4 (Zr HO543.out) hb) (Aside0.mk (Kd.S_lower (Kd.S_new' (Kd.S_new' ho0 (Kd.R_lt (Zr HO_6.out))) (Kd.R_lt (Zr HO543.out))) (below_size Zi))) (Aside0.mk (Kd.R_lower ho1 (below_size Zi))) (Zw (Zb BK535.out) hb) (Zy Zi hb); clear HO_6 HO543 BK535 HB; intro HO_6 HO543 HO546 HO549 BK535 HB; (try clear hb); (try clear hb2); (try clear hk); (try clear hi); (try clear ho0); (try clear ho1); obtain ⟨Ao22, co22, eo22⟩ := Kd.S_slice HO546.out; (first | subst eo22 | (injection eo22 with f1_ f2_ f3_; have f4_ := f1_.symm; have f5_ := f3_.symm; clear f1_ f2_ f3_; subst f4_; subst f5_)); obtain ⟨Ao23, co23, eo23⟩ := Kd.R_slice HO549.out; (first | subst eo23 | (injection eo23 with f1_ f2_ f3_; have f4_ := f1_.symm; have f5_ := f3_.symm; clear f1_ f2_ f3_; subst f4_; subst f5_)); refine hK.out _ _ ⟨Z0 BK535, Z1 BK535⟩ (fun hHeld => ?_); clear hK K; refine Zn ?_; refine ZO 5 (some 44) (fun K hK => ?_); refine ZC Try.func63 #[.agg #[.slice Ao22 t544.length co22, .slice Ao23 t547.length co23]] ?_; (with_reducible refine (spec_l2Parts.calls k2 _ _ t544 _ _ t547 t550 _ ?side1 ?side2 ?side3 ?side4 A17.out).mono ?_); (case side1 => repeat (first | exact (Kd.S_reads' HO546.out).2.2 | (with_reducible refine Kd.C_alloc ?_ _) | (with_reducible refine Kd.C_drewN ?_ _) | (with_reducible refine Kd.C_drew ?_))); (case side2 => exact (Kd.S_reads' HO546.out).2.1); (case side3 => repeat (first | exact (Kd.R_reads' HO549.out).2.2 | (with_reducible refine Kd.C_alloc ?_ _) | (with_reducible refine Kd.C_drewN ?_ _) | (with_reducible refine Kd.C_drew ?_))); (case side4 => exact (Kd.R_reads' HO549.out).2.1); rintro e w24 ⟨v551, rfl, ho0, hb⟩; refine ⟨_, rfl, ?_⟩; refine Y7 ?_ (Z4 (Zr HO_6.out) hb) (Z4 (Zr HO543.out) hb) (Aside0.mk (Kd.S_elder' (Zs HO546.out) (Kd.S_base ho0) hb)) (Z4 (Zr HO549.out) hb) (Aside0.mk (Kd.S_lower (Kd.S_new' (Kd.S_new' (Kd.S_new' ho0 (Kd.R_lt (Zr HO_6.out))) (Kd.R_lt (Zr HO543.out))) (Kd.S_lt (Zs HO546.out))) (below_size Zi))) (Zw (Zb BK535.out) hb) (Zy Zi hb); clear HO_6 HO543 HO546 HO549 BK535 HB; intro HO_6 HO543 HO546 HO549 HO552 BK535 HB; (try clear hb); (try clear hb2); (try clear hk); (try clear hi); (try clear ho0); obtain ⟨Ao25, co25, eo25⟩ := Kd.S_slice HO552.out; (first | subst eo25 | (injection eo25 with f1_ f2_ f3_; have f4_ := f1_.symm; have f5_ := f3_.symm; clear f1_ f2_ f3_; subst f4_; subst f5_)); refine hK.out _ _ ⟨Z0 BK535, Z1 BK535⟩ (fun hHeld => ?_); clear hK K; refine Zn ?_; refine Zp 6 45 ?_; refine Zp 7 11 ?_; refine done_ (done_of HT_.out (by kernel_rfl)) ?_
 try go_wp2
 go_loopg [6, 12] k2 (fun kq v6 v12 w' => ∃ (x6_3 : List Int) (x12_3 : Int), v12 = .int .i64 x12_3 ∧ Aside0 (spec_MergeHeights.l2 kq l1 x6_3 x8_1 (t550.length : Int) x12_3 l0_0 l0_1 = some (r1, r2)) ∧ Aside0 (kq ≤ k2) ∧ Aside0 (Kd.R (Kd.int .i64) 3 w' w.heap.size (fun _ => True) v6 x6_3) ∧ Aside0 (w'.heap[gb535]? = some (.cells #[(.slice A0_0 l0_0.length c0_0), (.slice A0_1 l0_1.length c0_1)] 30 (0, 0))) ∧ Aside0 (Below w.heap.size w w'))
 case atStart => exact ⟨(x6_1), (wrap64 ((wrap64 (x7_1 + x9_2)) - (t550.length : Int))), Zq, H', ⟨Nat.le_refl _⟩, ⟨by (with_reducible repeat (first | apply Kd.R_alloc | apply Kd.R_drewN | apply Kd.R_drew)); exact Kd.R_mono HO_6.out (fun _ hk => trivial)⟩, ⟨Zb BK535.out⟩, ⟨Zi⟩⟩
 clear H'
 try clear c1
 try clear c2
 try clear p2
 try clear c4
 try clear p5
 try clear q5
 try clear hx5
 try clear c6
 try clear p6
 try clear c10
 try clear c10b0
 try clear c11
 try clear c11b0
 try clear c12
 try clear c12b0
 try clear c13
 try clear c13b0
 try clear c13b1
 try clear c14
 try clear c14b0
 try clear c14b1
 try clear c22
 try clear hcz8_0
 try clear hcz8_1
 try clear hfz8_0
 try clear hfz8_1
 try clear hx540_0
 try clear p2
 try clear p540
 try clear q540
 obtain ⟨x6_3, x12_3, rfl, HA, HK3, HO_6, BK535, HB⟩ := hrel; rcases gk with _ | k3
 ·exact absurd HA.out (by simp [spec_MergeHeights.l2])
 have H := HA.out; clear HA; simp only [spec_MergeHeights.l2] at H; by_cases c26 : x12_3 > 0; rotate_left
 ·rw [if_neg c26] at H; have c26b0 : decide (0 < x12_3) = false := decide_eq_false c26; clear c26; have H' := Aside0.mk H; clear H; go_wp2
  first | go_roundg k3 | ((simp only [add_plain] at *); go_roundg k3)
  case measure => have := HK1.out; have := HK2.out; have := HK3.out; omega
  case rel => exact ⟨(x6_3), ((t550.length : Int)), (wrap64 (x8_1 + 1)), Zq, Zq, H', ⟨by have := HK1.out; have := HK2.out; have := HK3.out; omega⟩, ⟨Zr HO_6.out⟩, ⟨Zb BK535.out⟩, ⟨Zi⟩⟩
 rw [if_pos c26] at H; have c26b0 : decide (0 < x12_3) = true := decide_eq_true c26; clear c26; replace H := Zu H; obtain ⟨c27, H⟩ := H; have LMc27 := Aside0.mk c27; clear c27; obtain ⟨y553, hy553⟩ : ∃ y_ : List Int, y_ = (x6_3 ++ [x8_1]) := ⟨_, rfl⟩; replace H : (spec_MergeHeights.l2 k3 l1 y553 x8_1 (t550.length : Int) (wrap64 (x12_3 - 1)) l0_0 l0_1) = some (r1, r2) := ZH hy553 H; have Ny553 := Aside0.mk hy553; clear hy553; have H' := Aside0.mk H; clear H; go_wp2_with ((with_reducible refine gate_builtin (b := .append) (xs := #[.tmp 55, .tmp 57]) rfl ?_); at_builtin; refine Kd.R_append (Kd.int .i64) (w0 := w) w.heap.size rfl (.tmp 55) (.tmp 57) 26 3 (.int .i64 0) 8 rfl Try.underlying26 info3 rfl (by decide) (by omega) u6 x6_3 x8_1 [.int .i64 x8_1] (fun _ => True) (fun _ => False) rfl rfl ?aP (fun _ hk => hk.elim) ?aF ?aO ?aB ?aS ?aL ?_; (case aP => exact rfl); (case aB => exact Zi); (case aF => exact (fun _ _ => trivial)); (case aO => exact (Zr HO_6.out)); (case aS => exact (below_size Zi)); (case aL => have := LMc27.out; omega); intro v554 w28 ho hb hg hat; rw [← Ny553.out] at ho; refine Y3 ?_ (Aside0.mk (blk_grown (g := gb535) (o := .cells #[.slice A0_0 l0_0.length c0_0, .slice A0_1 l0_1.length c0_1] 30 (0, 0)) (Zb BK535.out) hg (Kd.R_ne HO_6.out BK535.out (by decide)))) (Aside0.mk (hb)) (Aside0.mk (ho)); clear BK535 HB HO_6 ho hb hg hat; intro BK535 HB HO555)
 first | go_roundg k3 | ((simp only [add_plain] at *); go_roundg k3)
 case measure => have := HK1.out; have := HK2.out; have := HK3.out; omega
 case rel => exact ⟨(y553), (wrap64 (x12_3 - 1)), Zq, H', ⟨by have := HK1.out; have := HK2.out; have := HK3.out; omega⟩, ⟨Zr HO555.out⟩, ⟨Zb BK535.out⟩, ⟨Zi⟩⟩
end Go.Proofs.Ytiimbndjggebdaa.Q
