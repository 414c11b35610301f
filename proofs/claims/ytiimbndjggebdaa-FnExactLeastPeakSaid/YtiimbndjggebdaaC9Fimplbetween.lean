/- Printed by a program of ours (wip/tools/myprint.py) out of the translation: for Go functions of this seat plain Lean functions, and proofs that the calls come to what these say. Conditions: none. -/
import Derived.Test.YtiimbndjggebdaaC9Q0
import Derived.Test.YtiimbndjggebdaaC9FcmpCompareint
import Derived.Test.YtiimbndjggebdaaC9FcmpOrint
import Derived.Test.YtiimbndjggebdaaC9FimplisPairs
import Derived.Test.YtiimbndjggebdaaC9S
namespace Go.Proofs.Ytiimbndjggebdaa.Q
open Go.RowKit Go.Proofs.YtiimbndjggebdaaW.PrintWords Go.Proofs.YtiimbndjggebdaaW.PrintLast Go.Proofs.YtiimbndjggebdaaW.PrintMore
attribute [local go_sem] max2_int min2_int max_two min_two max_three min_three max_four min_four   -- for this text's walks alone
set_option linter.unusedVariables false
set_option linter.unusedSimpArgs false
mutual
def impl_IsSpace.j0 : Nat → Bool → List (List Int) → List (S52) → Option (Bool)
  | 0, _, _, _ => none
  | k + 1, x14, x316000, x316001 => if x14 = true then (some false) else (impl_IsSpace.l0 k x316000 (x316000.length : Int) 0 x316000 x316001)
def impl_IsSpace.l0 : Nat → List (List Int) → Int → Int → List (List Int) → List (S52) → Option (Bool)
  | 0, _, _, _, _, _ => none
  | k + 1, x16, x17, x18, x316000, x316001 => if x18 < x17 then (if 0 ≤ x18 then (if x18 < (x16.length : Int) then ((impl_isState.f (rd_L1 x16 x18)).bind fun t318 => (if t318 = true then (if x18 > 0 then (if 0 ≤ (wrap64 (x18 - 1)) then (if (wrap64 (x18 - 1)) < (x316000.length : Int) then ((slices_Compare_int_int.f k (rd_L1 x316000 (wrap64 (x18 - 1))) (rd_L1 x16 x18)).bind fun t320 => (if t320 ≥ 0 then (some false) else (impl_IsSpace.l0 k x16 x17 (wrap64 (x18 + 1)) x316000 x316001))) else (none)) else (none)) else (impl_IsSpace.l0 k x16 x17 (wrap64 (x18 + 1)) x316000 x316001)) else (some false))) else (none)) else (none)) else ((impl_isPairs.f k x316001 (x316000.length : Int)).bind fun t316 => (some t316))
end
def impl_IsSpace.f (k : Nat) (l0_0 : List (List Int)) (l0_1 : List (S52)) : Option (Bool) := if (l0_0.length : Int) > 300 then (impl_IsSpace.j0 k true l0_0 l0_1) else (impl_IsSpace.j0 k (decide ((l0_1.length : Int) > 6000)) l0_0 l0_1)
set_option maxHeartbeats 8000000 in
set_option maxRecDepth 100000 in
theorem impl_IsSpace.calls (k : Nat) (A0_0 : Option Addr) (c0_0 : Nat) (l0_0 : List (List Int)) (A0_1 : Option Addr) (c0_1 : Nat) (l0_1 : List (S52)) (r : Bool) (w : World) (hr0_0 : Kd.C (Kd.slice 3 (Kd.int .i64)) w A0_0 l0_0.length l0_0) (hc0_0 : l0_0.length ≤ c0_0) (hr0_1 : Kd.C k52 w A0_1 l0_1.length l0_1) (hc0_1 : l0_1.length ≤ c0_1) (h : impl_IsSpace.f k l0_0 l0_1 = some r) :
    Calls Try.prog 79 #[.agg #[.slice A0_0 l0_0.length c0_0, .slice A0_1 l0_1.length c0_1]] w fun e w' => e = .returned (.bool r) ∧ Below w.heap.size w w' := by
 have hu30 := Try.underlying30; have HR0_0 := Aside0.mk hr0_0; have HC0_0 := Aside0.mk hc0_0; clear hr0_0 hc0_0; have HR0_1 := Aside0.mk hr0_1; have HC0_1 := Aside0.mk hc0_1; clear hr0_1 hc0_1; have HB := Aside0.mk (Below.refl w.heap.size w); have H : (if (l0_0.length : Int) > 300 then (impl_IsSpace.j0 k true l0_0 l0_1) else (impl_IsSpace.j0 k (decide ((l0_1.length : Int) > 6000)) l0_0 l0_1)) = some r := h; clear h; have HC2 := Aside0.mk H; clear H; go_enter Try.func79, Try.ntmps79; go_upto_region 1 with ((with_reducible refine ZD 1 rfl ?_); (try (refine gate_guard (by rfl) ?_; dsimp only)); refine box_event ?hg (N := 1) ?hd (cs := #[.slice A0_0 l0_0.length c0_0, .slice A0_1 l0_1.length c0_1]) (t := 30) ?hr ?_; (case hd => rfl); (case hg => rfl); (case hr => first | (go_simp; done) | (go_simp; rfl)); intro gb315 hg w3 hbox hb; refine Y4 ?_ (Zy Zh hb) (Aside0.mk hbox) (Zg hg (below_size Zh)) (Zg hg (below_size Zh)); clear HB hb hbox hg; intro HB BK315 GW315 GE315); (try simp only [Act.put, List.setIfInBounds_toArray, List.set_cons_zero, List.set_cons_succ]); go_cut [14] (fun v14 wc => ∃ (kq : Nat) (x14_1 : Bool), v14 = .bool x14_1 ∧ Aside0 (impl_IsSpace.j0 kq x14_1 l0_0 l0_1 = some r) ∧ Aside0 (kq ≤ k) ∧ Aside0 (wc.heap[gb315]? = some (.cells #[(.slice A0_0 l0_0.length c0_0), (.slice A0_1 l0_1.length c0_1)] 30 (0, 0))) ∧ Aside0 (Below w.heap.size w wc))
 case first =>
  have H := HC2.out; clear HC2; by_cases c4 : (l0_0.length : Int) > 300
  ·rw [if_pos c4] at H; have c4b0 : decide (300 < (l0_0.length : Int)) = true := decide_eq_true c4; have c4b1 : decide (300 < l0_0.length) = true := decide_eq_true (by omega); clear c4; (first | rw [c4b0] | (simp only [i64_w, i32_w]; rw [c4b0]) | skip); have H' := Aside0.mk H; clear H; have hcz5_0 := Z0 BK315; have hcz5_1 := Z1 BK315; have hfz5_0 := Zz BK315 0; have hfz5_1 := Zz BK315 1; go_wp2; go_meet
   case rel => exact ⟨_, (true), Zq, H', ⟨by first | omega | exact Nat.le_refl _⟩, ⟨Zb BK315.out⟩, ⟨Zi⟩⟩
  rw [if_neg c4] at H; have c4b0 : decide (300 < (l0_0.length : Int)) = false := decide_eq_false c4; have c4b1 : decide (300 < l0_0.length) = false := decide_eq_false (by omega); clear c4; (first | rw [c4b0] | (simp only [i64_w, i32_w]; rw [c4b0]) | skip); have H' := Aside0.mk H; clear H; have hcz6_0 := Z0 BK315; have hcz6_1 := Z1 BK315; have hfz6_0 := Zz BK315 0; have hfz6_1 := Zz BK315 1; go_wp2; go_meet
  case rel => exact ⟨_, (decide ((l0_1.length : Int) > 6000)), Zq, H', ⟨by first | omega | exact Nat.le_refl _⟩, ⟨Zb BK315.out⟩, ⟨Zi⟩⟩
 clear HC2
 try clear p2
 try clear c4
 try clear c4b0
 try clear c4b1
 try clear hcz5_0
 try clear hcz5_1
 try clear hcz6_0
 try clear hcz6_1
 try clear hfz5_0
 try clear hfz5_1
 try clear hfz6_0
 try clear hfz6_1
 obtain ⟨kq, x14_1, rfl, HA, HJ1, BK315, HB⟩ := hcut; rcases kq with _ | kj1
 ·exact absurd HA.out (by simp [impl_IsSpace.j0])
 have H := HA.out; clear HA; simp only [impl_IsSpace.j0] at H; by_cases c7 : x14_1 = true
 ·subst c7; have H1 : (some false) = some r := by rw [if_pos rfl] at H; exact H
  clear H; have H := H1; clear H1; obtain rfl := Option.some.inj H; go_wp2; go_ret; exact ⟨Ze, Zi⟩
 replace c7 := Bool.eq_false_iff.mpr c7; subst c7; have H1 : (impl_IsSpace.l0 kj1 l0_0 (l0_0.length : Int) 0 l0_0 l0_1) = some r := by rw [if_neg (show ¬ (false = true) by decide)] at H; exact H
 clear H; have H := H1; clear H1; have H' := Aside0.mk H; clear H; have hcz8_0 := Z0 BK315; have hcz8_1 := Z1 BK315; have hfz8_0 := Zz BK315 0; have hfz8_1 := Zz BK315 1; go_wp2; go_loopg [18] kj1 (fun kq v18 w' => ∃ (x18_2 : Int), v18 = .int .i64 x18_2 ∧ Aside0 (impl_IsSpace.l0 kq l0_0 (l0_0.length : Int) x18_2 l0_0 l0_1 = some r) ∧ Aside0 (kq ≤ kj1) ∧ Aside0 (w'.heap[gb315]? = some (.cells #[(.slice A0_0 l0_0.length c0_0), (.slice A0_1 l0_1.length c0_1)] 30 (0, 0))) ∧ Aside0 (Below w.heap.size w w'))
 case atStart => exact ⟨(0), Zq, H', ⟨Nat.le_refl _⟩, ⟨Zb BK315.out⟩, ⟨Zi⟩⟩
 clear H'
 try clear p2
 try clear c4
 try clear c4b0
 try clear c4b1
 try clear c7
 try clear hcz5_0
 try clear hcz5_1
 try clear hcz6_0
 try clear hcz6_1
 try clear hcz8_0
 try clear hcz8_1
 try clear hfz5_0
 try clear hfz5_1
 try clear hfz6_0
 try clear hfz6_1
 try clear hfz8_0
 try clear hfz8_1
 try clear p2
 obtain ⟨x18_2, rfl, HA, HK2, BK315, HB⟩ := hrel; rcases gk with _ | k2
 ·exact absurd HA.out (by simp [impl_IsSpace.l0])
 have H := HA.out; clear HA; simp only [impl_IsSpace.l0] at H; by_cases c9 : x18_2 < (l0_0.length : Int); rotate_left
 ·rw [if_neg c9] at H; have c9b0 := decide_eq_false c9; clear c9; replace H := Option.bind_eq_some_iff.mp H; obtain ⟨t316, A220, H⟩ := H; replace H : (some t316) = some r := H; have A22 := Aside0.mk A220; clear A220; obtain rfl := Option.some.inj H; have hcz23_0 := Z0 BK315; have hcz23_1 := Z1 BK315; have hfz23_0 := Zz BK315 0; have hfz23_1 := Zz BK315 1; go_wp2_with ((with_reducible refine ZE 117 rfl ?_); refine Zc Try.func117 (some 47) #[.slice A0_1 l0_1.length c0_1, .int .i64 (l0_0.length : Int)] ?_; refine (impl_isPairs.calls k2 _ _ l0_1 (l0_0.length : Int) t316 _ (Zj HR0_1.out) HC0_1.out A22.out).mono ?_; rintro e w24 ⟨rfl, hb⟩; refine ⟨_, rfl, ?_⟩; refine Y2 ?_ (Zw (Zb BK315.out) hb) (Zy Zi hb); clear BK315 HB; intro BK315 HB; (try clear hb); (try clear hb2); (try clear hk); (try clear hi)); go_ret; exact ⟨Ze, Zi⟩
 rw [if_pos c9] at H; have c9b0 := decide_eq_true c9; clear c9; replace H := Zu H; obtain ⟨c10, H⟩ := H; have c10b0 := decide_eq_true c10; clear c10; replace H := Zu H; obtain ⟨c11, H⟩ := H; have c11b0 := decide_eq_true c11; clear c11; replace H := Option.bind_eq_some_iff.mp H; obtain ⟨t318, A120, H⟩ := H; replace H : (if t318 = true then (if x18_2 > 0 then (if 0 ≤ (wrap64 (x18_2 - 1)) then (if (wrap64 (x18_2 - 1)) < (l0_0.length : Int) then ((slices_Compare_int_int.f k2 (rd_L1 l0_0 (wrap64 (x18_2 - 1))) (rd_L1 l0_0 x18_2)).bind fun t320 => (if t320 ≥ 0 then (some false) else (impl_IsSpace.l0 k2 l0_0 (l0_0.length : Int) (wrap64 (x18_2 + 1)) l0_0 l0_1))) else (none)) else (none)) else (impl_IsSpace.l0 k2 l0_0 (l0_0.length : Int) (wrap64 (x18_2 + 1)) l0_0 l0_1)) else (some false)) = some r := H; have A12 := Aside0.mk A120; clear A120; by_cases c13 : t318 = true; rotate_left
 ·replace c13 := Bool.eq_false_iff.mpr c13; subst c13; have H1 : (some false) = some r := by rw [if_neg (show ¬ (false = true) by decide)] at H; exact H
  clear H; have H := H1; clear H1; obtain rfl := Option.some.inj H; have p317 : 0 ≤ (x18_2 : Int) := Zf; have q317 : x18_2 < (l0_0.length : Int) := Zf; obtain ⟨ad317, A317_0, c317_0, e317, hx317_0, hl317_0, hi317_0⟩ := at_L1 HR0_0.out x18_2 p317 q317; cases e317; replace hx317_0 := Z3 HB hx317_0; have HR317_0 := Aside0.mk hi317_0; have HC317_0 := Aside0.mk hl317_0; clear hi317_0 hl317_0; replace p317 := eq_true p317; replace q317 := eq_true q317; go_wp2_with ((with_reducible refine ZE 115 rfl ?_); refine Zc Try.func115 (some 24) #[.slice A317_0 (rd_L1 l0_0 x18_2).length c317_0] ?_; refine (impl_isState.calls _ _ (rd_L1 l0_0 x18_2) false _ (Zj HR317_0.out) HC317_0.out A12.out).mono ?_; rintro e w' ⟨rfl, ⟨nd, rfl⟩⟩; refine ⟨_, rfl, ?_⟩); go_ret; exact ⟨Ze, Zi⟩
 subst c13; have H1 : (if x18_2 > 0 then (if 0 ≤ (wrap64 (x18_2 - 1)) then (if (wrap64 (x18_2 - 1)) < (l0_0.length : Int) then ((slices_Compare_int_int.f k2 (rd_L1 l0_0 (wrap64 (x18_2 - 1))) (rd_L1 l0_0 x18_2)).bind fun t320 => (if t320 ≥ 0 then (some false) else (impl_IsSpace.l0 k2 l0_0 (l0_0.length : Int) (wrap64 (x18_2 + 1)) l0_0 l0_1))) else (none)) else (none)) else (impl_IsSpace.l0 k2 l0_0 (l0_0.length : Int) (wrap64 (x18_2 + 1)) l0_0 l0_1)) = some r := by rw [if_pos rfl] at H; exact H
 clear H; have H := H1; clear H1; by_cases c14 : x18_2 > 0; rotate_left
 ·rw [if_neg c14] at H; have c14b0 : decide (0 < x18_2) = false := decide_eq_false c14; clear c14; have H' := Aside0.mk H; clear H; have p317 : 0 ≤ (x18_2 : Int) := Zf; have q317 : x18_2 < (l0_0.length : Int) := Zf; obtain ⟨ad317, A317_0, c317_0, e317, hx317_0, hl317_0, hi317_0⟩ := at_L1 HR0_0.out x18_2 p317 q317; cases e317; replace hx317_0 := Z3 HB hx317_0; have HR317_0 := Aside0.mk hi317_0; have HC317_0 := Aside0.mk hl317_0; clear hi317_0 hl317_0; replace p317 := eq_true p317; replace q317 := eq_true q317; go_wp2_with ((with_reducible refine ZE 115 rfl ?_); refine Zc Try.func115 (some 24) #[.slice A317_0 (rd_L1 l0_0 x18_2).length c317_0] ?_; refine (impl_isState.calls _ _ (rd_L1 l0_0 x18_2) true _ (Zj HR317_0.out) HC317_0.out A12.out).mono ?_; rintro e w' ⟨rfl, ⟨nd, rfl⟩⟩; refine ⟨_, rfl, ?_⟩)
  first | go_roundg k2 | ((simp only [add_plain] at *); go_roundg k2)
  case measure => have := HJ1.out; have := HK2.out; omega
  case rel => exact ⟨(wrap64 (x18_2 + 1)), Zq, H', ⟨by have := HJ1.out; have := HK2.out; omega⟩, ⟨Zb BK315.out⟩, ⟨Zi⟩⟩
 rw [if_pos c14] at H; have c14b0 : decide (0 < x18_2) = true := decide_eq_true c14; clear c14; obtain ⟨ji15, hji15⟩ : ∃ j_ : Int, (wrap64 (x18_2 - 1)) = j_ := ⟨_, rfl⟩; replace H : (if 0 ≤ (ji15) then (if (ji15) < (l0_0.length : Int) then ((slices_Compare_int_int.f k2 (rd_L1 l0_0 (ji15)) (rd_L1 l0_0 x18_2)).bind fun t320 => (if t320 ≥ 0 then (some false) else (impl_IsSpace.l0 k2 l0_0 (l0_0.length : Int) (wrap64 (x18_2 + 1)) l0_0 l0_1))) else (none)) else (none)) = some r := by first | (rw [hji15] at H; exact H) | (simp only [hji15] at H ⊢; exact H)
 (try rw [hji15] at A12); have hji15w : (IntKind.i64.wrap (x18_2 - 1)) = ji15 := (i64_w _).trans hji15; replace H := Zu H; obtain ⟨c16, H⟩ := H; have c16b0 := decide_eq_true c16; clear c16; replace H := Zu H; obtain ⟨c17, H⟩ := H; have c17b0 := decide_eq_true c17; clear c17; replace H := Option.bind_eq_some_iff.mp H; obtain ⟨t320, A180, H⟩ := H; replace H : (if t320 ≥ 0 then (some false) else (impl_IsSpace.l0 k2 l0_0 (l0_0.length : Int) (wrap64 (x18_2 + 1)) l0_0 l0_1)) = some r := H; have A18 := Aside0.mk A180; clear A180; by_cases c19 : t320 ≥ 0
 ·rw [if_pos c19] at H; have c19b0 : decide (0 ≤ t320) = true := decide_eq_true c19; clear c19; obtain rfl := Option.some.inj H; have p317 : 0 ≤ (x18_2 : Int) := Zf; have q317 : x18_2 < (l0_0.length : Int) := Zf; obtain ⟨ad317, A317_0, c317_0, e317, hx317_0, hl317_0, hi317_0⟩ := at_L1 HR0_0.out x18_2 p317 q317; cases e317; replace hx317_0 := Z3 HB hx317_0; have HR317_0 := Aside0.mk hi317_0; have HC317_0 := Aside0.mk hl317_0; clear hi317_0 hl317_0; replace p317 := eq_true p317; replace q317 := eq_true q317; go_wp2_with (first | ((with_reducible refine ZE 115 rfl ?_); refine Zc Try.func115 (some 24) #[.slice A317_0 (rd_L1 l0_0 x18_2).length c317_0] ?_; refine (impl_isState.calls _ _ (rd_L1 l0_0 x18_2) true _ (Zj HR317_0.out) HC317_0.out A12.out).mono ?_; rintro e w' ⟨rfl, ⟨nd, rfl⟩⟩; refine ⟨_, rfl, ?_⟩; have hcz20_0 := Z0 BK315; have hcz20_1 := Z1 BK315; have hfz20_0 := Zz BK315 0; have hfz20_1 := Zz BK315 1; have p319 : 0 ≤ ((ji15) : Int) := Zf; have q319 : (ji15) < (l0_0.length : Int) := Zf; obtain ⟨ad319, A319_0, c319_0, e319, hx319_0, hl319_0, hi319_0⟩ := at_L1 HR0_0.out (ji15) p319 q319; obtain rfl : ad317 = ad319 := (by injection e319); replace hx319_0 := Z3 HB hx319_0; have HR319_0 := Aside0.mk hi319_0; have HC319_0 := Aside0.mk hl319_0; clear hi319_0 hl319_0; replace p319 := eq_true p319; replace q319 := eq_true q319) | (go_at_call 116; (with_reducible refine (slices_Compare_int_int.calls k2 _ _ (rd_L1 l0_0 (ji15)) _ _ (rd_L1 l0_0 x18_2) t320 _ ?side1 ?side2 ?side3 ?side4 A18.out).mono ?_); (case side1 => exact Zk (Kd.C_below HR319_0.out Zi)); (case side2 => exact HC319_0.out); (case side3 => exact Zk (Kd.C_below HR317_0.out Zi)); (case side4 => exact HC317_0.out); rintro e w' ⟨rfl, ⟨nd, rfl⟩⟩)); go_ret; exact ⟨by first | rfl | (simp [errW_none, errW_some] <;> rfl) | (simp only [← hji15]; first | rfl | (simp [errW_none, errW_some] <;> rfl)) | (simp [*, errW_none, errW_some] <;> rfl), Zi⟩
 rw [if_neg c19] at H; have c19b0 : decide (0 ≤ t320) = false := decide_eq_false c19; clear c19; have H' := Aside0.mk H; clear H; have p317 : 0 ≤ (x18_2 : Int) := Zf; have q317 : x18_2 < (l0_0.length : Int) := Zf; obtain ⟨ad317, A317_0, c317_0, e317, hx317_0, hl317_0, hi317_0⟩ := at_L1 HR0_0.out x18_2 p317 q317; cases e317; replace hx317_0 := Z3 HB hx317_0; have HR317_0 := Aside0.mk hi317_0; have HC317_0 := Aside0.mk hl317_0; clear hi317_0 hl317_0; replace p317 := eq_true p317; replace q317 := eq_true q317; go_wp2_with (first | ((with_reducible refine ZE 115 rfl ?_); refine Zc Try.func115 (some 24) #[.slice A317_0 (rd_L1 l0_0 x18_2).length c317_0] ?_; refine (impl_isState.calls _ _ (rd_L1 l0_0 x18_2) true _ (Zj HR317_0.out) HC317_0.out A12.out).mono ?_; rintro e w' ⟨rfl, ⟨nd, rfl⟩⟩; refine ⟨_, rfl, ?_⟩; have hcz21_0 := Z0 BK315; have hcz21_1 := Z1 BK315; have hfz21_0 := Zz BK315 0; have hfz21_1 := Zz BK315 1; have p319 : 0 ≤ ((ji15) : Int) := Zf; have q319 : (ji15) < (l0_0.length : Int) := Zf; obtain ⟨ad319, A319_0, c319_0, e319, hx319_0, hl319_0, hi319_0⟩ := at_L1 HR0_0.out (ji15) p319 q319; obtain rfl : ad317 = ad319 := (by injection e319); replace hx319_0 := Z3 HB hx319_0; have HR319_0 := Aside0.mk hi319_0; have HC319_0 := Aside0.mk hl319_0; clear hi319_0 hl319_0; replace p319 := eq_true p319; replace q319 := eq_true q319) | (go_at_call 116; (with_reducible refine (slices_Compare_int_int.calls k2 _ _ (rd_L1 l0_0 (ji15)) _ _ (rd_L1 l0_0 x18_2) t320 _ ?side1 ?side2 ?side3 ?side4 A18.out).mono ?_); (case side1 => exact Zk (Kd.C_below HR319_0.out Zi)); (case side2 => exact HC319_0.out); (case side3 => exact Zk (Kd.C_below HR317_0.out Zi)); (case side4 => exact HC317_0.out); rintro e w' ⟨rfl, ⟨nd, rfl⟩⟩))
 first | go_roundg k2 | ((simp only [add_plain] at *); go_roundg k2)
 case measure => have := HJ1.out; have := HK2.out; omega
 case rel => exact ⟨(wrap64 (x18_2 + 1)), Zq, H', ⟨by have := HJ1.out; have := HK2.out; omega⟩, ⟨Zb BK315.out⟩, ⟨Zi⟩⟩
def slices_Sort_int_int.f (l0 : List Int) : Option (List Int) := if l0.length < 4611686018427387904 then some (l0.mergeSort fun x y => decide (x ≤ y)) else none
theorem slices_Sort_int_int.calls (P0_ : Nat → Prop) (u9000_ : Value) (l0 : List Int) (r : List Int) (w0 w : World) (hB : Below w0.heap.size w0 w) (ho0 : Kd.R (Kd.int .i64) 3 w w0.heap.size P0_ u9000_ l0) (h : slices_Sort_int_int.f l0 = some r) :
    Calls Try.prog 60 #[u9000_] w fun e w' => e = .returned (.tuple #[]) ∧ Kd.R (Kd.int .i64) 3 w' w0.heap.size (fun k_ => (P0_ k_ ∨ w.heap.size ≤ k_)) u9000_ r ∧ Below w0.heap.size w0 w' ∧ Kept w w' (fun k_ => P0_ k_) := by
 unfold slices_Sort_int_int.f at h; split at h
 case isFalse => cases h
 case isTrue hl =>
 obtain rfl := Option.some.inj h; have ho := Kd.own_of_R ho0; have hok := ho0.1; rcases ho.2 with ⟨rfl, h0⟩ | ⟨g, cap, cur, rfl, hg, hb, hn, hcap, hsz, htk⟩
 ·have hl0 : l0 = [] := List.length_eq_zero_iff.1 h0; subst hl0; refine (Try.slices_Sort_int_none none 0 w).mono ?_; rintro e w' ⟨rfl, rfl⟩; exact ⟨rfl, by simpa using Kd.R_mono ho0 (fun k_ hk => Or.inl hk), hB, Kept.refl _ _⟩
 refine (Try.slices_Sort_int g 0 cap l0 w (holds_of_blockI hb (by simpa [encs] using htk)) (blk_lt hb) hl).mono ?_; rintro e w' ⟨rfl, n, os, rfl⟩; have hg' := grownBy_sortedI (w := w) (g := g) (n := n) (os := os) (l0.mergeSort fun x y => decide (x ≤ y)).toArray; have ho2 := ownsRow_sortedI (w := w) (base := w0.heap.size) (n := n) (os := os) (ss := l0) (ts := l0.mergeSort fun x y => decide (x ≤ y)) (by simp) hg hb hn hcap hsz; exact ⟨rfl, Kd.R_of_own (by rw [List.length_mergeSort]; exact ho2) (fun k hk => .inl (hok k hk)), pw_below_grown hB (some g) hB.size hg' (fun k hk => by injection hk with hk; omega), Kept.of_grown hg' (Kept.refl _ _) (fun k hk => .inl (hok k hk))⟩
def impl_between.f (a0 : Int) (a1 : Int) (a2 : Int) : Option (Bool) := if a0 ≥ a1 then (some (decide (a0 ≤ a2))) else (some false)
set_option maxHeartbeats 8000000 in
set_option maxRecDepth 100000 in
theorem impl_between.calls (a0 : Int) (a1 : Int) (a2 : Int) (r : Bool) (w : World) (h : impl_between.f a0 a1 a2 = some r) :
    Calls Try.prog 109 #[.int .i64 a0, .int .i64 a1, .int .i64 a2] w fun e w' => e = .returned (.bool r) ∧ Drawn0 w w' := by
 have H : (if a0 ≥ a1 then (some (decide (a0 ≤ a2))) else (some false)) = some r := h; clear h; by_cases c4 : a0 ≥ a1
 ·rw [if_pos c4] at H; have c4b0 : decide (a1 ≤ a0) = true := decide_eq_true c4; clear c4; obtain rfl := Option.some.inj H; go_enter Try.func109, Try.ntmps109; go_wp2; go_ret; exact ⟨Zq, Zd⟩
 rw [if_neg c4] at H; have c4b0 : decide (a1 ≤ a0) = false := decide_eq_false c4; clear c4; obtain rfl := Option.some.inj H; go_enter Try.func109, Try.ntmps109; go_wp2; go_ret; exact ⟨Zq, Zd⟩
end Go.Proofs.Ytiimbndjggebdaa.Q
