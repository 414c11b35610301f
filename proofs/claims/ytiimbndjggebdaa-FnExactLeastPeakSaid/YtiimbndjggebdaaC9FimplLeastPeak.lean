/- Printed by a program of ours (wip/tools/myprint.py) out of the translation: for Go functions of this seat plain Lean functions, and proofs that the calls come to what these say. Conditions: none. -/
import Derived.Test.YtiimbndjggebdaaC9Q0
import Derived.Test.YtiimbndjggebdaaC9FslicesisNaNint
import Derived.Test.YtiimbndjggebdaaC9FimplLowWay
import Derived.Test.YtiimbndjggebdaaC9FimplIsWay
import Derived.Test.YtiimbndjggebdaaC9S
namespace Go.Proofs.Ytiimbndjggebdaa.Q
open Go.RowKit Go.Proofs.YtiimbndjggebdaaW.PrintWords Go.Proofs.YtiimbndjggebdaaW.PrintLast Go.Proofs.YtiimbndjggebdaaW.PrintMore
attribute [local go_sem] max2_int min2_int max_two min_two max_three min_three max_four min_four   -- for this text's walks alone
set_option linter.unusedVariables false
set_option linter.unusedSimpArgs false
def impl_isWay.f (k : Nat) (l0_0 : List (List Int)) (l0_1 : List (S52)) (l1 : List Int) : Option (Bool) := (impl_IsWay.f k l0_0 l0_1 l1).bind fun bt975 => (some bt975.1)
set_option maxHeartbeats 8000000 in
set_option maxRecDepth 100000 in
theorem impl_isWay.calls (k : Nat) (A0_0 : Option Addr) (c0_0 : Nat) (l0_0 : List (List Int)) (A0_1 : Option Addr) (c0_1 : Nat) (l0_1 : List (S52)) (A1 : Option Addr) (c1 : Nat) (l1 : List Int) (r : Bool) (w : World) (hr0_0 : Kd.C (Kd.slice 3 (Kd.int .i64)) w A0_0 l0_0.length l0_0) (hc0_0 : l0_0.length ≤ c0_0) (hr0_1 : Kd.C k52 w A0_1 l0_1.length l0_1) (hc0_1 : l0_1.length ≤ c0_1) (hr1 : Kd.C (Kd.int .i64) w A1 l1.length l1) (hc1 : l1.length ≤ c1) (h : impl_isWay.f k l0_0 l0_1 l1 = some r) :
    Calls Try.prog 120 #[.agg #[.slice A0_0 l0_0.length c0_0, .slice A0_1 l0_1.length c0_1], .slice A1 l1.length c1] w fun e w' => e = .returned (.bool r) ∧ Below w.heap.size w w' := by
 have hu30 := Try.underlying30; have HR0_0 := Aside0.mk hr0_0; have HC0_0 := Aside0.mk hc0_0; clear hr0_0 hc0_0; have HR0_1 := Aside0.mk hr0_1; have HC0_1 := Aside0.mk hc0_1; clear hr0_1 hc0_1; have HR1 := Aside0.mk hr1; have HC1 := Aside0.mk hc1; clear hr1 hc1; have HB := Aside0.mk (Below.refl w.heap.size w); have H : ((impl_IsWay.f k l0_0 l0_1 l1).bind fun bt975 => (some bt975.1)) = some r := h; clear h; replace H := Option.bind_eq_some_iff.mp H; obtain ⟨⟨t975, t976⟩, A30, H⟩ := H; replace H : (some t975) = some r := H; have A3 := Aside0.mk A30; clear A30; obtain rfl := Option.some.inj H; go_enter Try.func120, Try.ntmps120; go_wp2_with (first | ((with_reducible refine ZD 2 rfl ?_); refine Zx #[.slice A0_0 l0_0.length c0_0, .slice A0_1 l0_1.length c0_1] 30 ?_; intro gb974 hg w4 hbox hb; refine Y4 ?_ (Zy Zh hb) (Aside0.mk hbox) (Zg hg (below_size Zh)) (Zg hg (below_size Zh)); clear HB hb hbox hg; intro HB BK974 GW974 GE974; have hcz5_0 := Z0 BK974; have hcz5_1 := Z1 BK974; have hfz5_0 := Zz BK974 0; have hfz5_1 := Zz BK974 1) | ((with_reducible refine ZE 150 rfl ?_); refine Zc Try.func150 (some 10) #[.agg #[.slice A0_0 l0_0.length c0_0, .slice A0_1 l0_1.length c0_1], .slice A1 l1.length c1] ?_; refine (impl_IsWay.calls k _ _ l0_0 _ _ l0_1 _ _ l1 t975 t976 _ (Zj HR0_0.out) HC0_0.out (Zj HR0_1.out) HC0_1.out (Zj HR1.out) HC1.out A3.out).mono ?_; rintro e w6 ⟨rfl, hb⟩; refine ⟨_, rfl, ?_⟩; refine Y2 ?_ (Zw (Zb BK974.out) hb) (Zy Zi hb); clear BK974 HB; intro BK974 HB; (try clear hb); (try clear hb2); (try clear hk); (try clear hi))); go_ret; exact ⟨Ze, Zi⟩
mutual
def impl_PeakOf.j0 : Nat → List Int → List Int → Bool → Option (Int × Bool)
  | 0, _, _, _ => none
  | k + 1, x1, x2, x20 => if x20 = true then (some (0, false)) else (impl_PeakOf.l0 k x1 0 x2 (x2.length : Int) 0)
def impl_PeakOf.l0 : Nat → List Int → Int → List Int → Int → Int → Option (Int × Bool)
  | 0, _, _, _, _, _ => none
  | k + 1, x1, x8, x21, x22, x23 => if x23 < x22 then (if 0 ≤ x23 then (if x23 < (x21.length : Int) then (if 0 ≤ (rd x21 x23) then (if (rd x21 x23) < (x1.length : Int) then (impl_PeakOf.l0 k x1 (mx x8 (rd x1 (rd x21 x23))) x21 x22 (wrap64 (x23 + 1))) else (none)) else (none)) else (none)) else (none)) else (some (x8, true))
end
def impl_PeakOf.f (k : Nat) (l0_0 : List (List Int)) (l0_1 : List (S52)) (l1 : List Int) (l2 : List Int) : Option (Int × Bool) := (impl_isHigh.f k l0_0 l0_1 l1).bind fun t978 => (if t978 = true then ((impl_isWay.f k l0_0 l0_1 l2).bind fun t979 => (impl_PeakOf.j0 k l1 l2 (!t979))) else (impl_PeakOf.j0 k l1 l2 true))
set_option maxHeartbeats 8000000 in
set_option maxRecDepth 100000 in
theorem impl_PeakOf.calls (k : Nat) (A0_0 : Option Addr) (c0_0 : Nat) (l0_0 : List (List Int)) (A0_1 : Option Addr) (c0_1 : Nat) (l0_1 : List (S52)) (A1 : Option Addr) (c1 : Nat) (l1 : List Int) (A2 : Option Addr) (c2 : Nat) (l2 : List Int) (r1 : Int) (r2 : Bool) (w : World) (hr0_0 : Kd.C (Kd.slice 3 (Kd.int .i64)) w A0_0 l0_0.length l0_0) (hc0_0 : l0_0.length ≤ c0_0) (hr0_1 : Kd.C k52 w A0_1 l0_1.length l0_1) (hc0_1 : l0_1.length ≤ c0_1) (hr1 : Kd.C (Kd.int .i64) w A1 l1.length l1) (hc1 : l1.length ≤ c1) (hr2 : Kd.C (Kd.int .i64) w A2 l2.length l2) (hc2 : l2.length ≤ c2) (h : impl_PeakOf.f k l0_0 l0_1 l1 l2 = some (r1, r2)) :
    Calls Try.prog 83 #[.agg #[.slice A0_0 l0_0.length c0_0, .slice A0_1 l0_1.length c0_1], .slice A1 l1.length c1, .slice A2 l2.length c2] w fun e w' => e = .returned (.tuple #[.int .i64 r1, .bool r2]) ∧ Below w.heap.size w w' := by
 have hu30 := Try.underlying30; have HR0_0 := Aside0.mk hr0_0; have HC0_0 := Aside0.mk hc0_0; clear hr0_0 hc0_0; have HR0_1 := Aside0.mk hr0_1; have HC0_1 := Aside0.mk hc0_1; clear hr0_1 hc0_1; have HR1 := Aside0.mk hr1; have HC1 := Aside0.mk hc1; clear hr1 hc1; have HR2 := Aside0.mk hr2; have HC2 := Aside0.mk hc2; clear hr2 hc2; have HB := Aside0.mk (Below.refl w.heap.size w); have H : ((impl_isHigh.f k l0_0 l0_1 l1).bind fun t978 => (if t978 = true then ((impl_isWay.f k l0_0 l0_1 l2).bind fun t979 => (impl_PeakOf.j0 k l1 l2 (!t979))) else (impl_PeakOf.j0 k l1 l2 true))) = some (r1, r2) := h; clear h; have HC4 := Aside0.mk H; clear H; go_enter Try.func83, Try.ntmps83; go_upto_region 1 with ((with_reducible refine ZD 3 rfl ?_); refine Zx #[.slice A0_0 l0_0.length c0_0, .slice A0_1 l0_1.length c0_1] 30 ?_; intro gb977 hg w5 hbox hb; refine Y4 ?_ (Zy Zh hb) (Aside0.mk hbox) (Zg hg (below_size Zh)) (Zg hg (below_size Zh)); clear HB hb hbox hg; intro HB BK977 GW977 GE977); (try simp only [Act.put, List.setIfInBounds_toArray, List.set_cons_zero, List.set_cons_succ]); go_cut [20] (fun v20 wc => ∃ (kq : Nat) (x20_3 : Bool), v20 = .bool x20_3 ∧ Aside0 (impl_PeakOf.j0 kq l1 l2 x20_3 = some (r1, r2)) ∧ Aside0 (kq ≤ k) ∧ Aside0 (wc.heap[gb977]? = some (.cells #[(.slice A0_0 l0_0.length c0_0), (.slice A0_1 l0_1.length c0_1)] 30 (0, 0))) ∧ Aside0 (Below w.heap.size w wc))
 case first =>
  have H := HC4.out; clear HC4; replace H := Option.bind_eq_some_iff.mp H; obtain ⟨t978, A60, H⟩ := H; replace H : (if t978 = true then ((impl_isWay.f k l0_0 l0_1 l2).bind fun t979 => (impl_PeakOf.j0 k l1 l2 (!t979))) else (impl_PeakOf.j0 k l1 l2 true)) = some (r1, r2) := H; have A6 := Aside0.mk A60; clear A60; by_cases c7 : t978 = true; rotate_left
  ·replace c7 := Bool.eq_false_iff.mpr c7; subst c7; have H1 : (impl_PeakOf.j0 k l1 l2 true) = some (r1, r2) := by rw [if_neg (show ¬ (false = true) by decide)] at H; exact H
   clear H; have H := H1; clear H1; have H' := Aside0.mk H; clear H; have hcz13_0 := Z0 BK977; have hcz13_1 := Z1 BK977; have hfz13_0 := Zz BK977 0; have hfz13_1 := Zz BK977 1; go_wp2_with ((with_reducible refine ZE 66 rfl ?_); refine Zc Try.func66 (some 13) #[.agg #[.slice A0_0 l0_0.length c0_0, .slice A0_1 l0_1.length c0_1], .slice A1 l1.length c1] ?_; refine (impl_isHigh.calls k _ _ l0_0 _ _ l0_1 _ _ l1 false _ (Zj HR0_0.out) HC0_0.out (Zj HR0_1.out) HC0_1.out (Zj HR1.out) HC1.out A6.out).mono ?_; rintro e w14 ⟨rfl, hb⟩; refine ⟨_, rfl, ?_⟩; refine Y2 ?_ (Zw (Zb BK977.out) hb) (Zy Zi hb); clear BK977 HB; intro BK977 HB; (try clear hb); (try clear hb2); (try clear hk); (try clear hi)); go_meet
   case rel => exact ⟨_, (true), Zq, H', ⟨by first | omega | exact Nat.le_refl _⟩, ⟨Zb BK977.out⟩, ⟨Zi⟩⟩
  subst c7; have H1 : ((impl_isWay.f k l0_0 l0_1 l2).bind fun t979 => (impl_PeakOf.j0 k l1 l2 (!t979))) = some (r1, r2) := by rw [if_pos rfl] at H; exact H
  clear H; have H := H1; clear H1; replace H := Option.bind_eq_some_iff.mp H; obtain ⟨t979, A80, H⟩ := H; replace H : (impl_PeakOf.j0 k l1 l2 (!t979)) = some (r1, r2) := H; have A8 := Aside0.mk A80; clear A80; have H' := Aside0.mk H; clear H; have hcz9_0 := Z0 BK977; have hcz9_1 := Z1 BK977; have hfz9_0 := Zz BK977 0; have hfz9_1 := Zz BK977 1; go_wp2_with (first | ((with_reducible refine ZE 66 rfl ?_); refine Zc Try.func66 (some 13) #[.agg #[.slice A0_0 l0_0.length c0_0, .slice A0_1 l0_1.length c0_1], .slice A1 l1.length c1] ?_; refine (impl_isHigh.calls k _ _ l0_0 _ _ l0_1 _ _ l1 true _ (Zj HR0_0.out) HC0_0.out (Zj HR0_1.out) HC0_1.out (Zj HR1.out) HC1.out A6.out).mono ?_; rintro e w10 ⟨rfl, hb⟩; refine ⟨_, rfl, ?_⟩; refine Y2 ?_ (Zw (Zb BK977.out) hb) (Zy Zi hb); clear BK977 HB; intro BK977 HB; (try clear hb); (try clear hb2); (try clear hk); (try clear hi); have hcz11_0 := Z0 BK977; have hcz11_1 := Z1 BK977; have hfz11_0 := Zz BK977 0; have hfz11_1 := Zz BK977 1) | (go_at_call 120; (with_reducible refine (impl_isWay.calls k _ _ l0_0 _ _ l0_1 _ _ l2 t979 _ ?side1 ?side2 ?side3 ?side4 ?side5 ?side6 A8.out).mono ?_); (case side1 => exact Zj HR0_0.out); (case side2 => exact HC0_0.out); (case side3 => exact Zj HR0_1.out); (case side4 => exact HC0_1.out); (case side5 => exact Zj HR2.out); (case side6 => exact HC2.out); rintro e w12 ⟨rfl, hb⟩; refine Y2 ?_ (Zw (Zb BK977.out) hb) (Zy Zi hb); clear BK977 HB; intro BK977 HB; (try clear hb); (try clear hb2); (try clear hk); (try clear hi))); go_meet
  case rel => exact ⟨_, (!t979), Zq, H', ⟨by first | omega | exact Nat.le_refl _⟩, ⟨Zb BK977.out⟩, ⟨Zi⟩⟩
 clear HC4
 try clear c1
 try clear c2
 try clear p2
 try clear c6
 try clear c7
 try clear c8
 try clear hcz11_0
 try clear hcz11_1
 try clear hcz13_0
 try clear hcz13_1
 try clear hcz9_0
 try clear hcz9_1
 try clear hfz11_0
 try clear hfz11_1
 try clear hfz13_0
 try clear hfz13_1
 try clear hfz9_0
 try clear hfz9_1
 obtain ⟨kq, x20_3, rfl, HA, HJ3, BK977, HB⟩ := hcut; rcases kq with _ | kj3
 ·exact absurd HA.out (by simp [impl_PeakOf.j0])
 have H := HA.out; clear HA; simp only [impl_PeakOf.j0] at H; by_cases c15 : x20_3 = true
 ·subst c15; have H1 : (some (0, false)) = some (r1, r2) := by rw [if_pos rfl] at H; exact H
  clear H; have H := H1; clear H1; simp only [Option.some.injEq, Prod.mk.injEq] at H; obtain ⟨rfl, rfl⟩ := H; go_wp2; go_ret2; exact ⟨Ze, Zi⟩
 replace c15 := Bool.eq_false_iff.mpr c15; subst c15; have H1 : (impl_PeakOf.l0 kj3 l1 0 l2 (l2.length : Int) 0) = some (r1, r2) := by rw [if_neg (show ¬ (false = true) by decide)] at H; exact H
 clear H; have H := H1; clear H1; have H' := Aside0.mk H; clear H; go_wp2; go_loopg [8, 23] kj3 (fun kq v8 v23 w' => ∃ (x8_2 : Int) (x23_2 : Int), v8 = .int .i64 x8_2 ∧ v23 = .int .i64 x23_2 ∧ Aside0 (impl_PeakOf.l0 kq l1 x8_2 l2 (l2.length : Int) x23_2 = some (r1, r2)) ∧ Aside0 (kq ≤ kj3) ∧ Aside0 (w'.heap[gb977]? = some (.cells #[(.slice A0_0 l0_0.length c0_0), (.slice A0_1 l0_1.length c0_1)] 30 (0, 0))) ∧ Aside0 (Below w.heap.size w w'))
 case atStart => exact ⟨(0), (0), Zq, Zq, H', ⟨Nat.le_refl _⟩, ⟨Zb BK977.out⟩, ⟨Zi⟩⟩
 clear H'
 try clear c1
 try clear c2
 try clear p2
 try clear c6
 try clear c7
 try clear c8
 try clear c15
 try clear hcz11_0
 try clear hcz11_1
 try clear hcz13_0
 try clear hcz13_1
 try clear hcz9_0
 try clear hcz9_1
 try clear hfz11_0
 try clear hfz11_1
 try clear hfz13_0
 try clear hfz13_1
 try clear hfz9_0
 try clear hfz9_1
 try clear p2
 obtain ⟨x8_2, x23_2, rfl, rfl, HA, HK2, BK977, HB⟩ := hrel; rcases gk with _ | k2
 ·exact absurd HA.out (by simp [impl_PeakOf.l0])
 have H := HA.out; clear HA; simp only [impl_PeakOf.l0] at H; by_cases c16 : x23_2 < (l2.length : Int); rotate_left
 ·rw [if_neg c16] at H; have c16b0 := decide_eq_false c16; clear c16; simp only [Option.some.injEq, Prod.mk.injEq] at H; obtain ⟨rfl, rfl⟩ := H; go_wp2; go_ret2; exact ⟨Ze, Zi⟩
 rw [if_pos c16] at H; have c16b0 := decide_eq_true c16; clear c16; replace H := Zu H; obtain ⟨c17, H⟩ := H; have c17b0 := decide_eq_true c17; clear c17; replace H := Zu H; obtain ⟨c18, H⟩ := H; have c18b0 := decide_eq_true c18; clear c18; replace H := Zu H; obtain ⟨c19, H⟩ := H; have c19b0 := decide_eq_true c19; clear c19; replace H := Zu H; obtain ⟨c20, H⟩ := H; have c20b0 := decide_eq_true c20; clear c20; obtain ⟨ji21, hji21⟩ : ∃ j_ : Int, (mx x8_2 (rd l1 (rd l2 x23_2))) = j_ := ⟨_, rfl⟩; replace H : (impl_PeakOf.l0 k2 l1 ji21 l2 (l2.length : Int) (wrap64 (x23_2 + 1))) = some (r1, r2) := by first | (rw [hji21] at H; exact H) | (simp only [hji21] at H ⊢; exact H)
 have hji21_ : (if x8_2 < (rd l1 (rd l2 x23_2)) then (rd l1 (rd l2 x23_2)) else x8_2) = ji21 := hji21; have H' := Aside0.mk H; clear H; have p980 : 0 ≤ (x23_2 : Int) := Zf; have q980 : x23_2 < (l2.length : Int) := Zf; obtain ⟨ad980, e980, hx980_0⟩ := Kd.at_int HR2.out x23_2 p980 q980; cases e980; replace hx980_0 := Z3 HB hx980_0; replace p980 := eq_true p980; replace q980 := eq_true q980; have p981 : 0 ≤ ((rd l2 x23_2) : Int) := Zf; have q981 : (rd l2 x23_2) < (l1.length : Int) := Zf; obtain ⟨ad981, e981, hx981_0⟩ := Kd.at_int HR1.out (rd l2 x23_2) p981 q981; cases e981; replace hx981_0 := Z3 HB hx981_0; replace p981 := eq_true p981; replace q981 := eq_true q981; go_wp2
 first | go_roundg k2 | ((simp only [add_plain] at *); go_roundg k2)
 case measure => have := HJ3.out; have := HK2.out; omega
 case rel => exact ⟨(ji21), (wrap64 (x23_2 + 1)), (by first | rfl | (simp; done) | (simp only [← hji21] <;> (first | rfl | simp)) | (simp [*]; done)), Zq, H', ⟨by have := HJ3.out; have := HK2.out; omega⟩, ⟨Zb BK977.out⟩, ⟨Zi⟩⟩
def impl_LeastPeak.f (k : Nat) (l0_0 : List (List Int)) (l0_1 : List (S52)) (l1 : List Int) (a2 : Int) (a3 : Int) : Option (Int × Bool) := (impl_LowWay.f k l0_0 l0_1 l1 a2 a3).bind fun bt983 => (if bt983.2 = true then ((impl_PeakOf.f k l0_0 l0_1 l1 bt983.1).bind fun bt987 => (some (bt987.1, bt987.2))) else (some (0, false)))
set_option maxHeartbeats 8000000 in
set_option maxRecDepth 100000 in
theorem impl_LeastPeak.calls (k : Nat) (A0_0 : Option Addr) (c0_0 : Nat) (l0_0 : List (List Int)) (A0_1 : Option Addr) (c0_1 : Nat) (l0_1 : List (S52)) (A1 : Option Addr) (c1 : Nat) (l1 : List Int) (a2 : Int) (a3 : Int) (r1 : Int) (r2 : Bool) (w : World) (hr0_0 : Kd.C (Kd.slice 3 (Kd.int .i64)) w A0_0 l0_0.length l0_0) (hc0_0 : l0_0.length ≤ c0_0) (hr0_1 : Kd.C k52 w A0_1 l0_1.length l0_1) (hc0_1 : l0_1.length ≤ c0_1) (hr1 : Kd.C (Kd.int .i64) w A1 l1.length l1) (hc1 : l1.length ≤ c1) (h : impl_LeastPeak.f k l0_0 l0_1 l1 a2 a3 = some (r1, r2)) :
    Calls Try.prog 38 #[.agg #[.slice A0_0 l0_0.length c0_0, .slice A0_1 l0_1.length c0_1], .slice A1 l1.length c1, .int .i64 a2, .int .i64 a3] w fun e w' => e = .returned (.tuple #[.int .i64 r1, .bool r2]) ∧ Below w.heap.size w w' := by
 have hu30 := Try.underlying30; have HR0_0 := Aside0.mk hr0_0; have HC0_0 := Aside0.mk hc0_0; clear hr0_0 hc0_0; have HR0_1 := Aside0.mk hr0_1; have HC0_1 := Aside0.mk hc0_1; clear hr0_1 hc0_1; have HR1 := Aside0.mk hr1; have HC1 := Aside0.mk hc1; clear hr1 hc1; have HB := Aside0.mk (Below.refl w.heap.size w); have H : ((impl_LowWay.f k l0_0 l0_1 l1 a2 a3).bind fun bt983 => (if bt983.2 = true then ((impl_PeakOf.f k l0_0 l0_1 l1 bt983.1).bind fun bt987 => (some (bt987.1, bt987.2))) else (some (0, false)))) = some (r1, r2) := h; clear h; replace H := Option.bind_eq_some_iff.mp H; obtain ⟨⟨t983, t986⟩, A50, H⟩ := H; replace H : (if t986 = true then ((impl_PeakOf.f k l0_0 l0_1 l1 t983).bind fun bt987 => (some (bt987.1, bt987.2))) else (some (0, false))) = some (r1, r2) := H; have A5 := Aside0.mk A50; clear A50; by_cases c6 : t986 = true; rotate_left
 ·replace c6 := Bool.eq_false_iff.mpr c6; subst c6; have H1 : (some (0, false)) = some (r1, r2) := by rw [if_neg (show ¬ (false = true) by decide)] at H; exact H
  clear H; have H := H1; clear H1; simp only [Option.some.injEq, Prod.mk.injEq] at H; obtain ⟨rfl, rfl⟩ := H; go_enter Try.func38, Try.ntmps38; go_wp2_with (first | ((with_reducible refine ZD 4 rfl ?_); refine Zx #[.slice A0_0 l0_0.length c0_0, .slice A0_1 l0_1.length c0_1] 30 ?_; intro gb982 hg w14 hbox hb; refine Y4 ?_ (Zy Zh hb) (Aside0.mk hbox) (Zg hg (below_size Zh)) (Zg hg (below_size Zh)); clear HB hb hbox hg; intro HB BK982 GW982 GE982; have hcz15_0 := Z0 BK982; have hcz15_1 := Z1 BK982; have hfz15_0 := Zz BK982 0; have hfz15_1 := Zz BK982 1) | ((with_reducible refine ZE 30 rfl ?_); refine Zc Try.func30 (some 17) #[.agg #[.slice A0_0 l0_0.length c0_0, .slice A0_1 l0_1.length c0_1], .slice A1 l1.length c1, .int .i64 a2, .int .i64 a3] ?_; refine (impl_LowWay.calls k _ _ l0_0 _ _ l0_1 _ _ l1 a2 a3 t983 false _ (Zj HR0_0.out) HC0_0.out (Zj HR0_1.out) HC0_1.out (Zj HR1.out) HC1.out A5.out).mono ?_; rintro e w16 ⟨v984, rfl, ho0, hb⟩; refine ⟨_, rfl, ?_⟩; refine Y3 ?_ (Aside0.mk (Kd.R_lower ho0 (below_size Zi))) (Zw (Zb BK982.out) hb) (Zy Zi hb); clear BK982 HB; intro HO985 BK982 HB; (try clear hb); (try clear hb2); (try clear hk); (try clear hi); (try clear ho0))); go_ret2; exact ⟨Ze, Zi⟩
 subst c6; have H1 : ((impl_PeakOf.f k l0_0 l0_1 l1 t983).bind fun bt987 => (some (bt987.1, bt987.2))) = some (r1, r2) := by rw [if_pos rfl] at H; exact H
 clear H; have H := H1; clear H1; replace H := Option.bind_eq_some_iff.mp H; obtain ⟨⟨t987, t988⟩, A70, H⟩ := H; replace H : (some (t987, t988)) = some (r1, r2) := H; have A7 := Aside0.mk A70; clear A70; simp only [Option.some.injEq, Prod.mk.injEq] at H; obtain ⟨rfl, rfl⟩ := H; go_enter Try.func38, Try.ntmps38; go_wp2_with (first | ((with_reducible refine ZD 4 rfl ?_); refine Zx #[.slice A0_0 l0_0.length c0_0, .slice A0_1 l0_1.length c0_1] 30 ?_; intro gb982 hg w8 hbox hb; refine Y4 ?_ (Zy Zh hb) (Aside0.mk hbox) (Zg hg (below_size Zh)) (Zg hg (below_size Zh)); clear HB hb hbox hg; intro HB BK982 GW982 GE982; have hcz9_0 := Z0 BK982; have hcz9_1 := Z1 BK982; have hfz9_0 := Zz BK982 0; have hfz9_1 := Zz BK982 1) | ((with_reducible refine ZE 30 rfl ?_); refine Zc Try.func30 (some 17) #[.agg #[.slice A0_0 l0_0.length c0_0, .slice A0_1 l0_1.length c0_1], .slice A1 l1.length c1, .int .i64 a2, .int .i64 a3] ?_; refine (impl_LowWay.calls k _ _ l0_0 _ _ l0_1 _ _ l1 a2 a3 t983 true _ (Zj HR0_0.out) HC0_0.out (Zj HR0_1.out) HC0_1.out (Zj HR1.out) HC1.out A5.out).mono ?_; rintro e w10 ⟨v984, rfl, ho0, hb⟩; refine ⟨_, rfl, ?_⟩; refine Y3 ?_ (Aside0.mk (Kd.R_lower ho0 (below_size Zi))) (Zw (Zb BK982.out) hb) (Zy Zi hb); clear BK982 HB; intro HO985 BK982 HB; (try clear hb); (try clear hb2); (try clear hk); (try clear hi); (try clear ho0); have hcz11_0 := Z0 BK982; have hcz11_1 := Z1 BK982; have hfz11_0 := Zz BK982 0; have hfz11_1 := Zz BK982 1; obtain ⟨Ao12, co12, eo12⟩ := Kd.R_slice HO985.out; subst eo12) | ((with_reducible refine ZE 83 rfl ?_); refine Zc Try.func83 (some 25) #[.agg #[.slice A0_0 l0_0.length c0_0, .slice A0_1 l0_1.length c0_1], .slice A1 l1.length c1, .slice Ao12 t983.length co12] ?_; refine (impl_PeakOf.calls k _ _ l0_0 _ _ l0_1 _ _ l1 _ _ t983 t987 t988 _ (Zj HR0_0.out) HC0_0.out (Zj HR0_1.out) HC0_1.out (Zj HR1.out) HC1.out (Zk (Kd.R_reads' HO985.out).2.2) (Kd.R_reads' HO985.out).2.1 A7.out).mono ?_; rintro e w13 ⟨rfl, hb⟩; refine ⟨_, rfl, ?_⟩; refine Y3 ?_ (Z4 (Zr HO985.out) hb) (Zw (Zb BK982.out) hb) (Zy Zi hb); clear HO985 BK982 HB; intro HO985 BK982 HB; (try clear hb); (try clear hb2); (try clear hk); (try clear hi))); go_ret2; exact ⟨Ze, Zi⟩
end Go.Proofs.Ytiimbndjggebdaa.Q
