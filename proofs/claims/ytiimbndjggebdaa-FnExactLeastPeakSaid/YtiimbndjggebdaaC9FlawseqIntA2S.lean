/- Printed by a program of ours (wip/tools/myprint.py) out of the translation: for Go functions of this seat plain Lean functions, and proofs that the calls come to what these say. Conditions: none. -/
import Derived.Test.YtiimbndjggebdaaC9Q0
import Derived.Test.YtiimbndjggebdaaC9FlawseqIntA2
import Derived.Test.YtiimbndjggebdaaC9S
namespace Go.Proofs.Ytiimbndjggebdaa.Q
open Go.RowKit Go.Proofs.YtiimbndjggebdaaW.PrintWords Go.Proofs.YtiimbndjggebdaaW.PrintLast Go.Proofs.YtiimbndjggebdaaW.PrintMore
attribute [local go_sem] max2_int min2_int max_two min_two max_three min_three max_four min_four   -- for this text's walks alone
set_option linter.unusedVariables false
set_option linter.unusedSimpArgs false
def laws_eqIntA2S.l0 : Nat → List (S52) → List (S52) → Int → Option (Bool)
  | 0, _, _, _ => none
  | k + 1, x0, x1, x5 => if x5 < (x0.length : Int) then (if 0 ≤ x5 then (if x5 < (x1.length : Int) then ((laws_eqIntA2.f k ((rd_T52 x0 x5).f0) ((rd_T52 x0 x5).f1) ((rd_T52 x1 x5).f0) ((rd_T52 x1 x5).f1)).bind fun t362 => (if t362 = true then (laws_eqIntA2S.l0 k x0 x1 (wrap64 (x5 + 1))) else (some false))) else (none)) else (none)) else (some true)
def laws_eqIntA2S.f (k : Nat) (l0 : List (S52)) (l1 : List (S52)) : Option (Bool) := if (l0.length : Int) = (l1.length : Int) then (laws_eqIntA2S.l0 k l0 l1 0) else (some false)
def laws_eqIntA2S.T6 : Bool × List (List Nat × List Nat) := (true, [([], []), ([], []), ([0, 1], [0, 1]), ([2], [2]), ([], []), ([], []), ([4, 5], [4, 5]), ([6], [6]), ([3, 7], [3, 7]), ([8], [8])])
def laws_eqIntA2S.B6 : List Nat := [0, 0, 3, 7, 0, 0, 48, 112, 255, 511]
theorem laws_eqIntA2S.tab6 : rtab .any (opsOf Try.f50 6) = laws_eqIntA2S.T6 := by kernel_rfl
theorem laws_eqIntA2S.bits6 : waitsOk laws_eqIntA2S.T6.2 laws_eqIntA2S.B6 = true := by kernel_rfl
set_option maxHeartbeats 8000000 in
set_option maxRecDepth 100000 in
theorem laws_eqIntA2S.calls (k : Nat) (A0 : Option Addr) (c0 : Nat) (l0 : List (S52)) (A1 : Option Addr) (c1 : Nat) (l1 : List (S52)) (r : Bool) (w : World) (hr0 : Kd.C k52 w A0 l0.length l0) (hc0 : l0.length ≤ c0) (hr1 : Kd.C k52 w A1 l1.length l1) (hc1 : l1.length ≤ c1) (h : laws_eqIntA2S.f k l0 l1 = some r) :
    Calls Try.prog 50 #[.slice A0 l0.length c0, .slice A1 l1.length c1] w fun e w' => e = .returned (.bool r) ∧ Below w.heap.size w w' := by
 have hu52 := Try.underlying52; have HR0 := Aside0.mk hr0; have HC0 := Aside0.mk hc0; clear hr0 hc0; have HR1 := Aside0.mk hr1; have HC1 := Aside0.mk hc1; clear hr1 hc1; have HB := Aside0.mk (Below.refl w.heap.size w); have H : (if (l0.length : Int) = (l1.length : Int) then (laws_eqIntA2S.l0 k l0 l1 0) else (some false)) = some r := h; clear h; by_cases c3 : (l0.length : Int) = (l1.length : Int); rotate_left
 ·rw [if_neg c3] at H; have c3b0 : ((l0.length : Int) == (l1.length : Int)) = false := beq_eq_false_iff_ne.mpr c3; have c3b1 : ((l0.length : Int) != (l1.length : Int)) = true := bne_iff_ne.mpr c3; have c3b2 : (l0.length == l1.length) = false := by first | simpa using c3 | (simp at c3 ⊢; omega)
  obtain rfl := Option.some.inj H; go_enter Try.func50, Try.ntmps50; go_wp2; go_ret; exact ⟨Ze, Zh⟩
 rw [if_pos c3] at H; have c3b0 : ((l0.length : Int) == (l1.length : Int)) = true := beq_iff_eq.mpr c3; have c3b1 : ((l0.length : Int) != (l1.length : Int)) = false := bne_eq_false_iff_eq.mpr c3; have c3b2 : (l0.length == l1.length) = true := by first | simpa using c3 | (simp at c3 ⊢; omega)
 clear c3; have H' := Aside0.mk H; clear H; go_enter Try.func50, Try.ntmps50; go_wp2; go_loopg [5] k (fun kq v5 w' => ∃ (x5_1 : Int), v5 = .int .i64 x5_1 ∧ Aside0 (laws_eqIntA2S.l0 kq l0 l1 x5_1 = some r) ∧ Aside0 (kq ≤ k) ∧ Aside0 (Below w.heap.size w w'))
 case atStart => exact ⟨(0), Zq, H', ⟨Nat.le_refl _⟩, ⟨Zh⟩⟩
 clear H'
 try clear c1
 try clear p2
 try clear c3
 try clear c3b0
 try clear c3b1
 try clear c3b2
 obtain ⟨x5_1, rfl, HA, HK1, HB⟩ := hrel; rcases gk with _ | k1
 ·exact absurd HA.out (by simp [laws_eqIntA2S.l0])
 have H := HA.out; clear HA; simp only [laws_eqIntA2S.l0] at H; by_cases c4 : x5_1 < (l0.length : Int); rotate_left
 ·rw [if_neg c4] at H; have c4b0 := decide_eq_false c4; clear c4; obtain rfl := Option.some.inj H; go_wp2; go_ret; exact ⟨Ze, Zh⟩
 rw [if_pos c4] at H; have c4b0 := decide_eq_true c4; clear c4; replace H := Zu H; obtain ⟨c5, H⟩ := H; have c5b0 := decide_eq_true c5; clear c5; replace H := Zu H; obtain ⟨c6, H⟩ := H; have c6b0 := decide_eq_true c6; clear c6; replace H := Option.bind_eq_some_iff.mp H; obtain ⟨t362, A70, H⟩ := H; replace H : (if t362 = true then (laws_eqIntA2S.l0 k1 l0 l1 (wrap64 (x5_1 + 1))) else (some false)) = some r := H; have A7 := Aside0.mk A70; clear A70; by_cases c8 : t362 = true; rotate_left
 ·replace c8 := Bool.eq_false_iff.mpr c8; subst c8; have H1 : (some false) = some r := by rw [if_neg (show ¬ (false = true) by decide)] at H; exact H
  clear H; have H := H1; clear H1; obtain rfl := Option.some.inj H
  try go_wp2
  refine Y1 ?_ (Aside0.mk (below_drew1 HB.out)); clear HB; intro HB; have p360 : 0 ≤ (x5_1 : Int) := Zf; have q360 : x5_1 < (l0.length : Int) := Zf; obtain ⟨ad360, e360, hx360_0, hx360_1⟩ := at_T52 HR0.out x5_1 p360 q360; have hw360_1 := hx360_1; have hw360_0 := hx360_0; cases e360; replace hx360_0 := Z3 HB hx360_0; replace hx360_1 := Z3 HB hx360_1; replace p360 := eq_true p360; replace q360 := eq_true q360; have p361 : 0 ≤ (x5_1 : Int) := Zf; have q361 : x5_1 < (l1.length : Int) := Zf; obtain ⟨ad361, e361, hx361_0, hx361_1⟩ := at_T52 HR1.out x5_1 p361 q361; have hw361_1 := hx361_1; have hw361_0 := hx361_0; cases e361; replace hx361_0 := Z3 HB hx361_0; replace hx361_1 := Z3 HB hx361_1; replace p361 := eq_true p361; replace q361 := eq_true q361; refine ZS 10 (fun w' => w'.cell? (ad360.add ((x5_1).toNat * 2)) = some (.int .i64 ((rd_T52 l0 x5_1).f0)) ∧ w'.cell? ⟨(ad360.add ((x5_1).toNat * 2)).block, (ad360.add ((x5_1).toNat * 2)).off + 1, none⟩ = some (.int .i64 ((rd_T52 l0 x5_1).f1)) ∧ w'.cell? (ad361.add ((x5_1).toNat * 2)) = some (.int .i64 ((rd_T52 l1 x5_1).f0)) ∧ w'.cell? ⟨(ad361.add ((x5_1).toNat * 2)).block, (ad361.add ((x5_1).toNat * 2)).off + 1, none⟩ = some (.int .i64 ((rd_T52 l1 x5_1).f1))) [] ⟨Z3 HB hw360_0, Z3 HB hw360_1, Z3 HB hw361_0, Z3 HB hw361_1⟩ (fun hHeld => ?_); refine with_tabW laws_eqIntA2S.tab6 laws_eqIntA2S.bits6 (fun HT_ HW_ => ?_); generalize wr.drew = w11 at HB hx360_0 hx360_1 hx361_0 hx361_1 hHeld ⊢; refine Zp 0 17 ?_; refine Zp 1 18 ?_; refine Zp 2 19 ?_; refine Zp 4 21 ?_; refine Zp 5 22 ?_; refine Zp 6 23 ?_; refine Zt 3 20 ?_; refine Zt 7 24 ?_; refine ZO 8 (some 25) (fun K hK => ?_); refine ZC Try.func94 #[.agg #[.int .i64 ((rd_T52 l0 x5_1).f0), .int .i64 ((rd_T52 l0 x5_1).f1)], .agg #[.int .i64 ((rd_T52 l1 x5_1).f0), .int .i64 ((rd_T52 l1 x5_1).f1)]] ?_; (with_reducible refine (laws_eqIntA2.calls k1 ((rd_T52 l0 x5_1).f0) ((rd_T52 l0 x5_1).f1) ((rd_T52 l1 x5_1).f0) ((rd_T52 l1 x5_1).f1) false _ A7.out).mono ?_); rintro e w12 ⟨rfl, hb⟩; refine ⟨_, rfl, ?_⟩; refine Y1 ?_ (Zy Zh hb); clear HB; intro HB; (try clear hb); (try clear hb2); (try clear hk); (try clear hi); refine hK.out _ _ ⟨Z3 HB hw360_0, Z3 HB hw360_1, Z3 HB hw361_0, Z3 HB hw361_1⟩ (fun hHeld => ?_); clear hK K; refine Zn ?_; refine Zp 9 26 ?_; refine done_ (done_of HT_.out (by kernel_rfl)) ?_
  try go_wp2
  go_ret; exact ⟨Ze, Zh⟩
 subst c8; have H1 : (laws_eqIntA2S.l0 k1 l0 l1 (wrap64 (x5_1 + 1))) = some r := by rw [if_pos rfl] at H; exact H
 clear H; have H := H1; clear H1; have H' := Aside0.mk H; clear H
 try go_wp2
 refine Y1 ?_ (Aside0.mk (below_drew1 HB.out)); clear HB; intro HB; have p360 : 0 ≤ (x5_1 : Int) := Zf; have q360 : x5_1 < (l0.length : Int) := Zf; obtain ⟨ad360, e360, hx360_0, hx360_1⟩ := at_T52 HR0.out x5_1 p360 q360; have hw360_1 := hx360_1; have hw360_0 := hx360_0; cases e360; replace hx360_0 := Z3 HB hx360_0; replace hx360_1 := Z3 HB hx360_1; replace p360 := eq_true p360; replace q360 := eq_true q360; have p361 : 0 ≤ (x5_1 : Int) := Zf; have q361 : x5_1 < (l1.length : Int) := Zf; obtain ⟨ad361, e361, hx361_0, hx361_1⟩ := at_T52 HR1.out x5_1 p361 q361; have hw361_1 := hx361_1; have hw361_0 := hx361_0; cases e361; replace hx361_0 := Z3 HB hx361_0; replace hx361_1 := Z3 HB hx361_1; replace p361 := eq_true p361; replace q361 := eq_true q361; refine ZS 10 (fun w' => w'.cell? (ad360.add ((x5_1).toNat * 2)) = some (.int .i64 ((rd_T52 l0 x5_1).f0)) ∧ w'.cell? ⟨(ad360.add ((x5_1).toNat * 2)).block, (ad360.add ((x5_1).toNat * 2)).off + 1, none⟩ = some (.int .i64 ((rd_T52 l0 x5_1).f1)) ∧ w'.cell? (ad361.add ((x5_1).toNat * 2)) = some (.int .i64 ((rd_T52 l1 x5_1).f0)) ∧ w'.cell? ⟨(ad361.add ((x5_1).toNat * 2)).block, (ad361.add ((x5_1).toNat * 2)).off + 1, none⟩ = some (.int .i64 ((rd_T52 l1 x5_1).f1))) [] ⟨Z3 HB hw360_0, Z3 HB hw360_1, Z3 HB hw361_0, Z3 HB hw361_1⟩ (fun hHeld => ?_); refine with_tabW laws_eqIntA2S.tab6 laws_eqIntA2S.bits6 (fun HT_ HW_ => ?_); generalize wr.drew = w9 at HB hx360_0 hx360_1 hx361_0 hx361_1 hHeld ⊢; refine Zp 0 17 ?_; refine Zp 1 18 ?_; refine Zp 2 19 ?_; refine Zp 4 21 ?_; refine Zp 5 22 ?_; refine Zp 6 23 ?_; refine Zt 3 20 ?_; refine Zt 7 24 ?_; refine ZO 8 (some 25) (fun K hK => ?_); refine ZC Try.func94 #[.agg #[.int .i64 ((rd_T52 l0 x5_1).f0), .int .i64 ((rd_T52 l0 x5_1).f1)], .agg #[.int .i64 ((rd_T52 l1 x5_1).f0), .int .i64 ((rd_T52 l1 x5_1).f1)]] ?_; (with_reducible refine (laws_eqIntA2.calls k1 ((rd_T52 l0 x5_1).f0) ((rd_T52 l0 x5_1).f1) ((rd_T52 l1 x5_1).f0) ((rd_T52 l1 x5_1).f1) true _ A7.out).mono ?_); rintro e w10 ⟨rfl, hb⟩; refine ⟨_, rfl, ?_⟩; refine Y1 ?_ (Zy Zh hb); clear HB; intro HB; (try clear hb); (try clear hb2); (try clear hk); (try clear hi); refine hK.out _ _ ⟨Z3 HB hw360_0, Z3 HB hw360_1, Z3 HB hw361_0, Z3 HB hw361_1⟩ (fun hHeld => ?_); clear hK K; refine Zn ?_; refine Zp 9 26 ?_; refine done_ (done_of HT_.out (by kernel_rfl)) ?_
 try go_wp2
 first | go_roundg k1 | ((simp only [add_plain] at *); go_roundg k1)
 case measure => have := HK1.out; omega
 case rel => exact ⟨(wrap64 (x5_1 + 1)), Zq, H', ⟨by have := HK1.out; omega⟩, ⟨Zh⟩⟩
end Go.Proofs.Ytiimbndjggebdaa.Q
