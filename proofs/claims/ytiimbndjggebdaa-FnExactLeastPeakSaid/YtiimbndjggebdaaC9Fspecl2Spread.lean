/- Printed by a program of ours (wip/tools/myprint.py) out of the translation: for Go functions of this seat plain Lean functions, and proofs that the calls come to what these say. Conditions: none. -/
import Derived.Test.YtiimbndjggebdaaC9Q0
import Derived.Test.YtiimbndjggebdaaC9S
namespace Go.Proofs.Ytiimbndjggebdaa.Q
open Go.RowKit Go.Proofs.YtiimbndjggebdaaW.PrintWords Go.Proofs.YtiimbndjggebdaaW.PrintLast Go.Proofs.YtiimbndjggebdaaW.PrintMore
attribute [local go_sem] max2_int min2_int max_two min_two max_three min_three max_four min_four   -- for this text's walks alone
set_option linter.unusedVariables false
set_option linter.unusedSimpArgs false
mutual
def spec_l2Spread.l0 : Nat → List (List Int) → Int → Int → List Int → Option (List Int)
  | 0, _, _, _, _ => none
  | k + 1, x0, x1, x6, x13 => if x6 < (x13.length : Int) then (if 0 ≤ x6 then (spec_l2Spread.l0 k x0 x1 (wrap64 (x6 + 1)) (x13.set (x6 : Int).toNat (-1))) else (none)) else (if 0 ≤ x1 then (if x1 < (x13.length : Int) then (spec_l2Spread.l1 k x0 (([x1] : List Int)) 0 (x13.set (x1 : Int).toNat 0)) else (none)) else (none))
def spec_l2Spread.l1 : Nat → List (List Int) → List Int → Int → List Int → Option (List Int)
  | 0, _, _, _, _ => none
  | k + 1, x0, x7, x8, x13 => if x8 < (x7.length : Int) then (if 0 ≤ x8 then (if 0 ≤ (rd x7 x8) then (if (rd x7 x8) < (x0.length : Int) then (spec_l2Spread.l2 k x0 x7 x8 (rd_L1 x0 (rd x7 x8)) 0 x13) else (none)) else (none)) else (none)) else (some x13)
def spec_l2Spread.l2 : Nat → List (List Int) → List Int → Int → List Int → Int → List Int → Option (List Int)
  | 0, _, _, _, _, _, _ => none
  | k + 1, x0, x7, x8, x9, x10, x13 => if x10 < (x9.length : Int) then (if 0 ≤ x10 then (if 0 ≤ (rd x9 x10) then (if (rd x9 x10) < (x13.length : Int) then (if (rd x13 (rd x9 x10)) < 0 then (if 0 ≤ x8 then (if x8 < (x7.length : Int) then (if 0 ≤ (rd x7 x8) then (if (rd x7 x8) < (x13.length : Int) then (if x7.length < 17592186044416 then (spec_l2Spread.l2 k x0 (x7 ++ [rd x9 x10]) x8 x9 (wrap64 (x10 + 1)) (x13.set ((rd x9 x10) : Int).toNat (wrap64 ((rd x13 (rd x7 x8)) + 1)))) else (none)) else (none)) else (none)) else (none)) else (none)) else (spec_l2Spread.l2 k x0 x7 x8 x9 (wrap64 (x10 + 1)) x13)) else (none)) else (none)) else (none)) else (spec_l2Spread.l1 k x0 x7 (wrap64 (x8 + 1)) x13)
end
def spec_l2Spread.f (k : Nat) (l0 : List (List Int)) (a1 : Int) : Option (List Int) := if 0 ≤ (l0.length : Int) then (if ((l0.length : Int) : Int).toNat ≤ 35184372088832 then (spec_l2Spread.l0 k l0 a1 0 (List.replicate ((l0.length : Int) : Int).toNat 0)) else (none)) else (none)
def spec_l2Spread.T16 : Bool × List (List Nat × List Nat) := (true, [([], []), ([], []), ([], []), ([1, 2], [1, 2]), ([3], [3]), ([], []), ([], []), ([], []), ([6, 7], [6, 7]), ([8], [8]), ([5, 9], [5, 9]), ([10], [10]), ([11], [11]), ([0, 4, 0, 1, 2, 3, 4, 5, 6, 7, 8, 9, 10, 11, 12], [0, 4]), ([13, 12, 0, 1, 2, 3, 4, 5, 6, 7, 8, 9, 10, 11, 12], [12, 13])])
def spec_l2Spread.B16 : List Nat := [0, 0, 0, 6, 14, 0, 0, 0, 192, 448, 992, 2016, 4064, 8191, 16383]
theorem spec_l2Spread.tab16 : rtab .any (opsOf Try.f102 16) = spec_l2Spread.T16 := by kernel_rfl
theorem spec_l2Spread.bits16 : waitsOk spec_l2Spread.T16.2 spec_l2Spread.B16 = true := by kernel_rfl
set_option maxHeartbeats 8000000 in
set_option maxRecDepth 100000 in
theorem spec_l2Spread.calls (k : Nat) (A0 : Option Addr) (c0 : Nat) (l0 : List (List Int)) (a1 : Int) (r : List Int) (w : World) (hr0 : Kd.C (Kd.slice 3 (Kd.int .i64)) w A0 l0.length l0) (hc0 : l0.length ≤ c0) (h : spec_l2Spread.f k l0 a1 = some r) :
    Calls Try.prog 102 #[.slice A0 l0.length c0, .int .i64 a1] w fun e w' => ∃ v0_ : Value, e = .returned (v0_) ∧ Kd.R (Kd.int .i64) 3 w' w.heap.size (fun _ => True) v0_ r ∧ Below w.heap.size w w' := by
 have HR0 := Aside0.mk hr0; have HC0 := Aside0.mk hc0; clear hr0 hc0; have HB := Aside0.mk (Below.refl w.heap.size w); have H : (if 0 ≤ (l0.length : Int) then (if ((l0.length : Int) : Int).toNat ≤ 35184372088832 then (spec_l2Spread.l0 k l0 a1 0 (List.replicate ((l0.length : Int) : Int).toNat 0)) else (none)) else (none)) = some r := h; clear h; replace H := Zu H; obtain ⟨c3, H⟩ := H; have c3b0 := eq_true c3; have c3b1 := decide_eq_true c3; clear c3; replace H := Zu H; obtain ⟨c4, H⟩ := H; have c4b0 := eq_true c4; have c4b1 := decide_eq_true c4; clear c4; obtain ⟨y442, hy442⟩ : ∃ y_ : List Int, y_ = (List.replicate ((l0.length : Int) : Int).toNat 0) := ⟨_, rfl⟩; replace H : (spec_l2Spread.l0 k l0 a1 0 y442) = some r := ZH hy442 H; have Ny442 := Aside0.mk hy442; clear hy442; have H' := Aside0.mk H; clear H; go_enter Try.func102, Try.ntmps102; go_wp2_with ((with_reducible refine ZD 13 rfl ?_); refine Kd.R_make (Kd.int .i64) _ 3 rfl (N := 13) rfl 26 _ _ rfl (l0.length : Int) rfl rfl Try.underlying26 (.int .i64 0) 8 info3 rfl (by decide) (by omega) 0 (ok := fun _ => True) (okp := fun _ => True) rfl (fun _ hk => hk) trivial Zf (Nat.le_trans (Nat.mul_le_mul_right _ (Zf : (l0.length : Int).toNat ≤ 35184372088832)) (by omega)) (Below.refl _ _) (Nat.le_refl _) ?_; intro v443 w5 ho6 hb hg_ hnew_; clear hg_ hnew_; (first | rw [← Ny442.out] at ho6 | (simp only [Int.reduceToNat] at ho6; rw [← Ny442.out] at ho6)); refine Y2 ?_ (Aside0.mk (Kd.R_lower ho6 (below_size Zh))) (Zy Zh hb); clear HB hb ho6; intro HO444 HB); go_loopg [6] k (fun kq v6 w' => ∃ (x6_1 : Int) (x13_1 : List Int), v6 = .int .i64 x6_1 ∧ Aside0 (spec_l2Spread.l0 kq l0 a1 x6_1 x13_1 = some r) ∧ Aside0 (kq ≤ k) ∧ Aside0 (Kd.R (Kd.int .i64) 3 w' w.heap.size (fun _ => True) v443 x13_1) ∧ Aside0 (Below w.heap.size w w'))
 case atStart => exact ⟨(0), (y442), Zq, H', ⟨Nat.le_refl _⟩, ⟨Zr HO444.out⟩, ⟨Zh⟩⟩
 clear H'
 try clear c1
 try clear p2
 try clear c3
 try clear c3b0
 try clear c3b1
 try clear c4
 try clear c4b0
 try clear c4b1
 obtain ⟨x6_1, x13_1, rfl, HA, HK1, HO_13, HB⟩ := hrel; rcases gk with _ | k1
 ·exact absurd HA.out (by simp [spec_l2Spread.l0])
 have H := HA.out; clear HA; simp only [spec_l2Spread.l0] at H; by_cases c7 : x6_1 < (x13_1.length : Int)
 ·rw [if_pos c7] at H; have c7b0 := decide_eq_true c7; clear c7; replace H := Zu H; obtain ⟨c8, H⟩ := H; have c8b0 := decide_eq_true c8; clear c8; obtain ⟨y445, hy445⟩ : ∃ y_ : List Int, y_ = (x13_1.set (x6_1 : Int).toNat (-1)) := ⟨_, rfl⟩; replace H : (spec_l2Spread.l0 k1 l0 a1 (wrap64 (x6_1 + 1)) y445) = some r := ZH hy445 H; have Ny445 := Aside0.mk hy445; clear hy445; have H' := Aside0.mk H; clear H; obtain ⟨Ao10, co10, eo10⟩ := Kd.R_slice HO_13.out; subst eo10; have p9 : 0 ≤ (x6_1 : Int) := Zf; have q9 : (x6_1 : Int) < ((x13_1.length : Int) : Int) := Zf; obtain ⟨go9, co9, eo9, gb9, gl9, cl9, HG9⟩ := Kd.R_form HO_13.out (by omega); (first | cases eo9 | (injection eo9 with ea_ en_ ec_; (first | subst ea_ | (injection ea_ with ea_; subst ea_)); subst ec_; clear en_)); have GB9 := Aside0.mk gb9; have GG9 := Aside0.mk HG9; clear gb9 gl9 HG9; obtain ⟨hx9_0, hf9_0⟩ := Kd.R_celln 0 HO_13.out (x6_1 : Int) p9 q9; replace p9 := eq_true p9; replace q9 := eq_true q9; have HP11 := Kd.R_putg HO_13.out (x6_1 : Int) (-1); go_wp2_with ((with_reducible refine gate_store (t := 3) (p := 22) rfl ?_); refine store_event (t := 3) (p := 22) (v := ?vo_w12) (w1 := (wr.setCell ⟨go9, (x6_1 : Int).toNat, none⟩ (.int .i64 (-1)))) ?hg ?ho ?hn ?hr ?_; (case ho => rfl); (case hg => rfl); (case hn => rfl); (case hr => first | (go_simp; done) | (go_simp; rfl)); intro w12 hw; have hg : wr.grownBy w12 (some go9) := (by rw [hw]; exact HP11.2); have hp_ : Kd.R (Kd.int .i64) 3 w12 w.heap.size (fun _ => True) (.slice (some ⟨go9, 0, none⟩) x13_1.length co10) y445 := (by rw [hw, Ny445.out]; exact HP11.1); clear HP11; refine Y2 ?_ (Aside0.mk (hp_)) (Aside0.mk ((by rw [hw]; exact below_set (HB.out) GB9.out : Below w.heap.size w w12))); clear HO_13 HB hg hw hp_; intro HO_13 HB)
  first | go_roundg k1 | ((simp only [add_plain] at *); go_roundg k1)
  case measure => have := HK1.out; omega
  case rel => exact ⟨(wrap64 (x6_1 + 1)), (y445), Zq, H', ⟨by have := HK1.out; omega⟩, ⟨Zr HO_13.out⟩, ⟨Zh⟩⟩
 rw [if_neg c7] at H; have c7b0 := decide_eq_false c7; clear c7; obtain ⟨y446, hy446⟩ : ∃ y_ : List Int, y_ = (([a1] : List Int)) := ⟨_, rfl⟩; replace H : (if 0 ≤ a1 then (if a1 < (x13_1.length : Int) then (spec_l2Spread.l1 k1 l0 y446 0 (x13_1.set (a1 : Int).toNat 0)) else (none)) else (none)) = some r := ZH hy446 H; have Ny446 := Aside0.mk hy446; clear hy446; replace H := Zu H; obtain ⟨c13, H⟩ := H; have c13b0 := decide_eq_true c13; clear c13; replace H := Zu H; obtain ⟨c14, H⟩ := H; have c14b0 := decide_eq_true c14; clear c14; obtain ⟨y449, hy449⟩ : ∃ y_ : List Int, y_ = (x13_1.set (a1 : Int).toNat 0) := ⟨_, rfl⟩; replace H : (spec_l2Spread.l1 k1 l0 y446 0 y449) = some r := ZH hy449 H; have Ny449 := Aside0.mk hy449; clear hy449; have H' := Aside0.mk H; clear H; obtain ⟨Ao16, co16, eo16⟩ := Kd.R_slice HO_13.out; subst eo16; go_wp2_with (first | ((with_reducible refine ZD 24 rfl ?_); refine Kd.R_lit (Kd.int .i64) _ 3 ?hg (N := 24) ?hd (xs := ([a1] : List Int)) (inner := [.int .i64 a1]) (ok := fun _ => True) (okp := fun _ => True) ?hr ?hp (fun _ hk => hk) trivial (Below.refl _ _) (Nat.le_refl _) (by simp) ?_; (case hd => rfl); (case hg => rfl); (case hr => first | (go_simp; done) | (go_simp; rfl)); (case hp => exact (Reps.one (show Kd.M (Kd.int .i64) _ _ _ a1 [.int .i64 a1] from rfl) (Reps.none _ _))); intro v447 w17 ho18 hb hg_ hnew_; clear hg_ hnew_; (first | rw [← Ny446.out] at ho18 | (simp only [Int.reduceToNat] at ho18; rw [← Ny446.out] at ho18)); refine Y3 ?_ (Aside0.mk (Kd.R_elder' (Zr HO_13.out) (Kd.R_base ho18) hb)) (Aside0.mk (Kd.R_lower (Kd.R_new' ho18 (Kd.R_lt (Zr HO_13.out))) (below_size Zh))) (Zy Zh hb); clear HO_13 HB hb ho18; intro HO_13 HO448 HB; have p15 : 0 ≤ (a1 : Int) := Zf; have q15 : (a1 : Int) < ((x13_1.length : Int) : Int) := Zf; obtain ⟨go15, co15, eo15, gb15, gl15, cl15, HG15⟩ := Kd.R_form HO_13.out (by omega); (first | cases eo15 | (injection eo15 with ea_ en_ ec_; (first | subst ea_ | (injection ea_ with ea_; subst ea_)); subst ec_; clear en_)); have GB15 := Aside0.mk gb15; have GG15 := Aside0.mk HG15; clear gb15 gl15 HG15; obtain ⟨hx15_0, hf15_0⟩ := Kd.R_celln 0 HO_13.out (a1 : Int) p15 q15; replace p15 := eq_true p15; replace q15 := eq_true q15; have n_ := Aside0.mk (Kd.R_mono (ok' := (fun k_ => some k_ ≠ (v447 : Value).ownBlock)) HO_13.out (fun k_ hk => hk.2)); clear HO_13; have HO_13 := n_; clear n_; obtain ⟨hy19_, hz19_⟩ := Kd.R_celln 0 HO_13.out (a1 : Int) Zf Zf; have HP19 := Kd.R_putg HO_13.out (a1 : Int) 0) | ((with_reducible refine gate_store (t := 3) (p := 27) rfl ?_); refine store_event (t := 3) (p := 27) (v := ?vo_w20) (w1 := (w17.setCell ⟨go15, (a1 : Int).toNat, none⟩ (.int .i64 0))) ?hg ?ho ?hn ?hr ?_; (case ho => rfl); (case hg => rfl); (case hn => rfl); (case hr => first | (go_simp; done) | (go_simp; rfl)); intro w20 hw; have hg : w17.grownBy w20 (some go15) := (by rw [hw]; exact HP19.2); have hp_ : Kd.R (Kd.int .i64) 3 w20 w.heap.size (fun k_ => some k_ ≠ (v447 : Value).ownBlock) (.slice (some ⟨go15, 0, none⟩) x13_1.length co16) y449 := (by rw [hw, Ny449.out]; exact HP19.1); clear HP19; refine Y3 ?_ (Aside0.mk (hp_)) (Aside0.mk (Kd.R_after (v := (.slice (some ⟨go15, 0, none⟩) x13_1.length co16)) (v1 := (.slice (some ⟨go15, 0, none⟩) x13_1.length co16)) (ok := (fun _ => True)) (Zr HO448.out) hg (.inl rfl))) (Aside0.mk ((by rw [hw]; exact below_set (HB.out) GB15.out : Below w.heap.size w w20))); clear HO_13 HO448 HB hg hw hp_; intro HO_13 HO448 HB)); go_loopg [7, 8] k1 (fun kq v7 v8 w' => ∃ (x7_2 : List Int) (x8_2 : Int) (x13_2 : List Int), v8 = .int .i64 x8_2 ∧ Aside0 (spec_l2Spread.l1 kq l0 x7_2 x8_2 x13_2 = some r) ∧ Aside0 (kq ≤ k1) ∧ Aside0 (Kd.R (Kd.int .i64) 3 w' w.heap.size (fun k_ => some k_ ≠ ((.slice (some ⟨go15, 0, none⟩) x13_1.length co16) : Value).ownBlock) v7 x7_2) ∧ Aside0 (Kd.R (Kd.int .i64) 3 w' w.heap.size (fun k_ => some k_ ≠ (v7 : Value).ownBlock) (.slice (some ⟨go15, 0, none⟩) x13_1.length co16) x13_2) ∧ Aside0 (Below w.heap.size w w'))
 case atStart => exact ⟨(y446), (0), (y449), Zq, H', ⟨Nat.le_refl _⟩, ⟨by (with_reducible repeat (first | apply Kd.R_alloc | apply Kd.R_drewN | apply Kd.R_drew)); exact Kd.R_mono HO448.out (fun _ hk => hk.2)⟩, ⟨Zr HO_13.out⟩, ⟨Zh⟩⟩
 clear H'
 try clear c1
 try clear p1
 try clear q1
 try clear hx1
 try clear p2
 try clear c3
 try clear c3b0
 try clear c3b1
 try clear c4
 try clear c4b0
 try clear c4b1
 try clear p6
 try clear c7
 try clear c7b0
 try clear c8
 try clear c8b0
 try clear p9
 try clear q9
 try clear hx9
 try clear hf9
 try clear c10
 try clear c13
 try clear c13b0
 try clear c14
 try clear c14b0
 try clear p15
 try clear q15
 try clear hx15
 try clear hf15
 try clear hx15_0
 try clear hx9_0
 try clear p15
 try clear p2
 try clear p9
 try clear q15
 try clear q9
 obtain ⟨x7_2, x8_2, x13_2, rfl, HA, HK2, HO_7, HO_13, HB⟩ := hrel; have hl13_2 := (Kd.R_reads' HO_13.out).1; rw [hl13_2] at HO_13; (try simp only [hl13_2]); (try simp only [hl13_2] at HO_7); rcases gk with _ | k2
 ·exact absurd HA.out (by simp [spec_l2Spread.l1])
 have H := HA.out; clear HA; simp only [spec_l2Spread.l1] at H; by_cases c21 : x8_2 < (x7_2.length : Int); rotate_left
 ·rw [if_neg c21] at H; have c21b0 := decide_eq_false c21; (try (have c21z0 := c21b0; simp only [hl13_2] at c21z0)); clear c21; obtain rfl := Option.some.inj H; obtain ⟨Ao41, co41, eo41⟩ := Kd.R_slice HO_7.out; subst eo41; go_wp2; go_ret; exact ⟨_, Ze, by (with_reducible repeat (first | apply Kd.R_alloc | apply Kd.R_drewN | apply Kd.R_drew)); exact Kd.R_mono HO_13.out (fun _ hk => trivial), Zh⟩
 rw [if_pos c21] at H; have c21b0 := decide_eq_true c21; (try (have c21z0 := c21b0; simp only [hl13_2] at c21z0)); clear c21; replace H := Zu H; obtain ⟨c22, H⟩ := H; have c22b0 := decide_eq_true c22; clear c22; replace H := Zu H; obtain ⟨c23, H⟩ := H; have c23b0 := decide_eq_true c23; clear c23; replace H := Zu H; obtain ⟨c24, H⟩ := H; have c24b0 := decide_eq_true c24; (try (have c24z0 := c24b0; simp only [hl13_2] at c24z0)); clear c24; have H' := Aside0.mk H; clear H; obtain ⟨Ao25, co25, eo25⟩ := Kd.R_slice HO_7.out; subst eo25; have p450 : 0 ≤ (x8_2 : Int) := Zf; have q450 : x8_2 < (x7_2.length : Int) := Zf; obtain ⟨ad450, e450, hx450_0⟩ := Kd.at_int (Kd.R_reads' HO_7.out).2.2 x8_2 p450 q450; cases e450; replace p450 := eq_true p450; replace q450 := eq_true q450; have p451 : 0 ≤ ((rd x7_2 x8_2) : Int) := Zf; have q451 : (rd x7_2 x8_2) < (l0.length : Int) := Zf; obtain ⟨ad451, A451_0, c451_0, e451, hx451_0, hl451_0, hi451_0⟩ := at_L1 HR0.out (rd x7_2 x8_2) p451 q451; cases e451; replace hx451_0 := Z3 HB hx451_0; have HR451_0 := Aside0.mk hi451_0; have HC451_0 := Aside0.mk hl451_0; clear hi451_0 hl451_0; replace p451 := eq_true p451; replace q451 := eq_true q451; go_wp2; go_loopg [7, 10] k2 (fun kq v7 v10 w' => ∃ (x7_3 : List Int) (x10_3 : Int) (x13_3 : List Int), v10 = .int .i64 x10_3 ∧ Aside0 (spec_l2Spread.l2 kq l0 x7_3 x8_2 (rd_L1 l0 (rd x7_2 x8_2)) x10_3 x13_3 = some r) ∧ Aside0 (kq ≤ k2) ∧ Aside0 (Kd.R (Kd.int .i64) 3 w' w.heap.size (fun k_ => some k_ ≠ ((.slice (some ⟨go15, 0, none⟩) x13_2.length co16) : Value).ownBlock) v7 x7_3) ∧ Aside0 (Kd.R (Kd.int .i64) 3 w' w.heap.size (fun k_ => some k_ ≠ (v7 : Value).ownBlock) (.slice (some ⟨go15, 0, none⟩) x13_2.length co16) x13_3) ∧ Aside0 (Below w.heap.size w w'))
 case atStart => exact ⟨(x7_2), (0), (x13_2), Zq, H', ⟨Nat.le_refl _⟩, ⟨by (try simp only [hl13_2]); (with_reducible repeat (first | apply Kd.R_alloc | apply Kd.R_drewN | apply Kd.R_drew)); exact HO_7.out⟩, ⟨by (try simp only [hl13_2]); (with_reducible repeat (first | apply Kd.R_alloc | apply Kd.R_drewN | apply Kd.R_drew)); exact HO_13.out⟩, ⟨Zh⟩⟩
 clear H'
 try clear c1
 try clear p1
 try clear q1
 try clear hx1
 try clear c2
 try clear p2
 try clear c3
 try clear c3b0
 try clear c3b1
 try clear c4
 try clear c4b0
 try clear c4b1
 try clear p4
 try clear q4
 try clear hx4
 try clear p6
 try clear c7
 try clear c7b0
 try clear c8
 try clear c8b0
 try clear p9
 try clear q9
 try clear hx9
 try clear hf9
 try clear c10
 try clear c13
 try clear c13b0
 try clear c14
 try clear c14b0
 try clear p15
 try clear q15
 try clear hx15
 try clear hf15
 try clear c21
 try clear c21b0
 try clear c22
 try clear c22b0
 try clear c23
 try clear c23b0
 try clear c24
 try clear c24b0
 try clear hx15_0
 try clear hx450_0
 try clear hx451_0
 try clear hx9_0
 try clear p1
 try clear p15
 try clear p2
 try clear p450
 try clear p451
 try clear p6
 try clear p9
 try clear q1
 try clear q15
 try clear q450
 try clear q451
 try clear q9
 obtain ⟨x7_3, x10_3, x13_3, rfl, HA, HK3, HO_7, HO_13, HB⟩ := hrel; have hl13_3 := (Kd.R_reads' HO_13.out).1; rw [hl13_3] at HO_13; (try simp only [hl13_3]); (try simp only [hl13_3] at HO_7); rcases gk with _ | k3
 ·exact absurd HA.out (by simp [spec_l2Spread.l2])
 have H := HA.out; clear HA; simp only [spec_l2Spread.l2] at H; by_cases c26 : x10_3 < ((rd_L1 l0 (rd x7_2 x8_2)).length : Int); rotate_left
 ·rw [if_neg c26] at H; have c26b0 := decide_eq_false c26; (try (have c26z0 := c26b0; simp only [hl13_2, hl13_3] at c26z0)); clear c26; have H' := Aside0.mk H; clear H; go_wp2; (try simp only [← hl13_2, ← hl13_3])
  first | go_roundg k3 | ((simp only [add_plain] at *); go_roundg k3)
  case measure => have := HK1.out; have := HK2.out; have := HK3.out; omega
  case rel => exact ⟨(x7_3), (wrap64 (x8_2 + 1)), (x13_3), Zq, H', ⟨by have := HK1.out; have := HK2.out; have := HK3.out; omega⟩, ⟨by (try simp only [hl13_2]); (try simp only [hl13_3]); (with_reducible repeat (first | apply Kd.R_alloc | apply Kd.R_drewN | apply Kd.R_drew)); exact HO_7.out⟩, ⟨by (try simp only [hl13_2]); (try simp only [hl13_3]); (with_reducible repeat (first | apply Kd.R_alloc | apply Kd.R_drewN | apply Kd.R_drew)); exact HO_13.out⟩, ⟨Zh⟩⟩
 rw [if_pos c26] at H; have c26b0 := decide_eq_true c26; (try (have c26z0 := c26b0; simp only [hl13_2, hl13_3] at c26z0)); clear c26; replace H := Zu H; obtain ⟨c27, H⟩ := H; have c27b0 := decide_eq_true c27; clear c27; replace H := Zu H; obtain ⟨c28, H⟩ := H; have c28b0 := decide_eq_true c28; clear c28; replace H := Zu H; obtain ⟨c29, H⟩ := H; have c29b0 := decide_eq_true c29; (try (have c29z0 := c29b0; simp only [hl13_2, hl13_3] at c29z0)); clear c29; by_cases c30 : (rd x13_3 (rd (rd_L1 l0 (rd x7_2 x8_2)) x10_3)) < 0; rotate_left
 ·rw [if_neg c30] at H; have c30b0 := decide_eq_false c30; clear c30; have H' := Aside0.mk H; clear H; have p452 : 0 ≤ (x10_3 : Int) := Zf; have q452 : x10_3 < ((rd_L1 l0 (rd x7_2 x8_2)).length : Int) := Zf; obtain ⟨ad452, e452, hx452_0⟩ := Kd.at_int HR451_0.out x10_3 p452 q452; cases e452; replace hx452_0 := Z3 HB hx452_0; replace p452 := eq_true p452; replace q452 := eq_true q452; have p453 : 0 ≤ ((rd (rd_L1 l0 (rd x7_2 x8_2)) x10_3) : Int) := Zf; have q453 : (rd (rd_L1 l0 (rd x7_2 x8_2)) x10_3) < (x13_3.length : Int) := Zf; obtain ⟨ad453, e453, hx453_0⟩ := Kd.at_int (Kd.R_reads' HO_13.out).2.2 (rd (rd_L1 l0 (rd x7_2 x8_2)) x10_3) p453 q453; obtain rfl : (⟨go15, 0, none⟩ : Addr) = ad453 := (by injection e453); (first | simp only [add_plain] at hx453_0 | simp only [add_at] at hx453_0 | simp only [Addr.add, Nat.zero_add] at hx453_0 | skip); replace p453 := eq_true p453; replace q453 := eq_true q453; go_wp2; (try simp only [← hl13_3])
  first | go_roundg k3 | ((simp only [add_plain] at *); go_roundg k3)
  case measure => have := HK1.out; have := HK2.out; have := HK3.out; omega
  case rel => exact ⟨(x7_3), (wrap64 (x10_3 + 1)), (x13_3), Zq, H', ⟨by have := HK1.out; have := HK2.out; have := HK3.out; omega⟩, ⟨by (try simp only [hl13_2]); (try simp only [hl13_3]); (with_reducible repeat (first | apply Kd.R_alloc | apply Kd.R_drewN | apply Kd.R_drew)); exact HO_7.out⟩, ⟨by (try simp only [hl13_2]); (try simp only [hl13_3]); (with_reducible repeat (first | apply Kd.R_alloc | apply Kd.R_drewN | apply Kd.R_drew)); exact HO_13.out⟩, ⟨Zh⟩⟩
 rw [if_pos c30] at H; have c30b0 := decide_eq_true c30; clear c30; replace H := Zu H; obtain ⟨c31, H⟩ := H; have c31b0 := decide_eq_true c31; clear c31; replace H := Zu H; obtain ⟨c32, H⟩ := H; have c32b0 := decide_eq_true c32; (try (have c32z0 := c32b0; simp only [hl13_2, hl13_3] at c32z0)); clear c32; replace H := Zu H; obtain ⟨c33, H⟩ := H; have c33b0 := decide_eq_true c33; clear c33; replace H := Zu H; obtain ⟨c34, H⟩ := H; have c34b0 := decide_eq_true c34; (try (have c34z0 := c34b0; simp only [hl13_2, hl13_3] at c34z0)); clear c34; obtain ⟨y457, hy457⟩ : ∃ y_ : List Int, y_ = (x13_3.set ((rd (rd_L1 l0 (rd x7_2 x8_2)) x10_3) : Int).toNat (wrap64 ((rd x13_3 (rd x7_3 x8_2)) + 1))) := ⟨_, rfl⟩; replace H : (if x7_3.length < 17592186044416 then (spec_l2Spread.l2 k3 l0 (x7_3 ++ [rd (rd_L1 l0 (rd x7_2 x8_2)) x10_3]) x8_2 (rd_L1 l0 (rd x7_2 x8_2)) (wrap64 (x10_3 + 1)) y457) else (none)) = some r := ZH hy457 H; have Ny457 := Aside0.mk hy457; clear hy457; replace H := Zu H; obtain ⟨c36, H⟩ := H; have LMc36 := Aside0.mk c36; clear c36; obtain ⟨y459, hy459⟩ : ∃ y_ : List Int, y_ = (x7_3 ++ [rd (rd_L1 l0 (rd x7_2 x8_2)) x10_3]) := ⟨_, rfl⟩; replace H : (spec_l2Spread.l2 k3 l0 y459 x8_2 (rd_L1 l0 (rd x7_2 x8_2)) (wrap64 (x10_3 + 1)) y457) = some r := ZH hy459 H; have Ny459 := Aside0.mk hy459; clear hy459; have H' := Aside0.mk H; clear H; have p452 : 0 ≤ (x10_3 : Int) := Zf; have q452 : x10_3 < ((rd_L1 l0 (rd x7_2 x8_2)).length : Int) := Zf; obtain ⟨ad452, e452, hx452_0⟩ := Kd.at_int HR451_0.out x10_3 p452 q452; cases e452; replace hx452_0 := Z3 HB hx452_0; replace p452 := eq_true p452; replace q452 := eq_true q452; have p453 : 0 ≤ ((rd (rd_L1 l0 (rd x7_2 x8_2)) x10_3) : Int) := Zf; have q453 : (rd (rd_L1 l0 (rd x7_2 x8_2)) x10_3) < (x13_3.length : Int) := Zf; obtain ⟨ad453, e453, hx453_0⟩ := Kd.at_int (Kd.R_reads' HO_13.out).2.2 (rd (rd_L1 l0 (rd x7_2 x8_2)) x10_3) p453 q453; obtain rfl : (⟨go15, 0, none⟩ : Addr) = ad453 := (by injection e453); (first | simp only [add_plain] at hx453_0 | simp only [add_at] at hx453_0 | simp only [Addr.add, Nat.zero_add] at hx453_0 | skip); replace p453 := eq_true p453; replace q453 := eq_true q453
 try go_wp2
 refine Y3 ?_ (Aside0.mk (Kd.R_drew HO_7.out)) (Aside0.mk (Kd.R_drew HO_13.out)) (Aside0.mk (below_drew1 HB.out)); clear HO_7 HO_13 HB; intro HO_7 HO_13 HB; have p454 : 0 ≤ (x10_3 : Int) := Zf; have q454 : x10_3 < ((rd_L1 l0 (rd x7_2 x8_2)).length : Int) := Zf; obtain ⟨ad454, e454, hx454_0⟩ := Kd.at_int HR451_0.out x10_3 p454 q454; have hw454_0 := hx454_0; obtain rfl : ad452 = ad454 := (by injection e454); replace hx454_0 := Z3 HB hx454_0; replace p454 := eq_true p454; replace q454 := eq_true q454; obtain ⟨Ao38, co38, eo38⟩ := Kd.R_slice HO_7.out; (first | subst eo38 | (injection eo38 with f1_ f2_ f3_; have f4_ := f1_.symm; have f5_ := f3_.symm; clear f1_ f2_ f3_; subst f4_; subst f5_)); have p455 : 0 ≤ (x8_2 : Int) := Zf; have q455 : x8_2 < (x7_3.length : Int) := Zf; obtain ⟨ad455, e455, hx455_0⟩ := Kd.at_int (Kd.R_reads' HO_7.out).2.2 x8_2 p455 q455; cases e455; replace p455 := eq_true p455; replace q455 := eq_true q455; have p456 : 0 ≤ ((rd x7_3 x8_2) : Int) := Zf; have q456 : (rd x7_3 x8_2) < (x13_3.length : Int) := Zf; obtain ⟨ad456, e456, hx456_0⟩ := Kd.at_int (Kd.R_reads' HO_13.out).2.2 (rd x7_3 x8_2) p456 q456; obtain rfl : (⟨go15, 0, none⟩ : Addr) = ad456 := (by injection e456); (first | simp only [add_plain] at hx456_0 | simp only [add_at] at hx456_0 | simp only [Addr.add, Nat.zero_add] at hx456_0 | skip); replace p456 := eq_true p456; replace q456 := eq_true q456; have p35 : 0 ≤ ((rd (rd_L1 l0 (rd x7_2 x8_2)) x10_3) : Int) := Zf; have q35 : ((rd (rd_L1 l0 (rd x7_2 x8_2)) x10_3) : Int) < ((x13_3.length : Int) : Int) := Zf; obtain ⟨hx35_0, hf35_0⟩ := Kd.R_celln 0 HO_13.out ((rd (rd_L1 l0 (rd x7_2 x8_2)) x10_3) : Int) p35 q35; replace p35 := eq_true p35; replace q35 := eq_true q35; have HP39 := Kd.R_putn HO_13.out ((rd (rd_L1 l0 (rd x7_2 x8_2)) x10_3) : Int) (wrap64 ((rd x13_3 (rd x7_3 x8_2)) + 1)); rw [← Ny457.out] at HP39; have HQ39 := Aside0.mk HP39; clear HP39; refine ZS 15 (fun w' => w'.cell? (ad452.add (x10_3).toNat) = some (.int .i64 (rd (rd_L1 l0 (rd x7_2 x8_2)) x10_3)) ∧ w'.cell? (ad455.add (x8_2).toNat) = some (.int .i64 (rd x7_3 x8_2)) ∧ w'.cell? ⟨go15, ((rd x7_3 x8_2)).toNat, none⟩ = some (.int .i64 (rd x13_3 (rd x7_3 x8_2)))) [14] ⟨Z3 HB hw454_0, hx455_0, hx456_0⟩ (fun hHeld => ?_); refine with_tabW spec_l2Spread.tab16 spec_l2Spread.bits16 (fun HT_ HW_ => ?_); generalize wr.drew = w37 at HO_7 HO_13 HB HQ39 hf35_0 hx35_0 hx454_0 hx455_0 hx456_0 hHeld ⊢; refine Zp 0 55 ?_; refine Zp 1 56 ?_; refine Zp 2 57 ?_; refine Zp 3 58 ?_; refine Zp 5 60 ?_; refine Zp 6 61 ?_; refine Zp 7 62 ?_; refine Zp 8 63 ?_; refine Zt 4 59 ?_; refine Zt 9 64 ?_; refine Zp 10 65 ?_; refine Zt 11 66 ?_; refine Zp 12 67 ?_; refine Zp 13 68 ?_; refine last_ (i := 14) (N := none) #[true, true, true, true, true, true, true, true, true, true, true, true, true, true, true] rfl rfl (one_of HT_.out (by kernel_rfl)) (by decide) (fun K hK => ?_); refine skip_ (w1 := ?_) (by rfl) rfl ?_ ?_; rotate_left
 ·go_simp; rfl
 refine hK.out _ _ ?_; clear hK K; refine done_ (done_of HT_.out (by kernel_rfl)) ?_; have p458 : 0 ≤ (x10_3 : Int) := Zf; have q458 : x10_3 < ((rd_L1 l0 (rd x7_2 x8_2)).length : Int) := Zf; obtain ⟨ad458, e458, hx458_0⟩ := Kd.at_int HR451_0.out x10_3 p458 q458; obtain rfl : ad452 = ad458 := (by injection e458); have hn458_0 : ad452.block ≠ go15 := Nat.ne_of_lt (Nat.lt_of_lt_of_le (by have := World.block_lt_of_cell? _ _ hx458_0; first | rwa [add_block] at this | exact this) GB15.out); replace hx458_0 := Z3 HB hx458_0; replace hx458_0 := (cell_far (p := ⟨go15, ((rd (rd_L1 l0 (rd x7_2 x8_2)) x10_3) : Int).toNat, none⟩) (by first | (rw [add_block]; exact hn458_0) | (show (Addr.add _ _).block ≠ _; rw [add_block]; exact hn458_0) | exact hn458_0) (.int .i64 (wrap64 ((rd x13_3 (rd x7_3 x8_2)) + 1)))).trans hx458_0; clear hn458_0; replace p458 := eq_true p458; replace q458 := eq_true q458
 try go_wp2_with ((with_reducible refine gate_builtin (b := .append) (xs := #[.tmp 69, .tmp 74]) rfl ?_); at_builtin; refine Kd.R_append (Kd.int .i64) (w0 := w) w.heap.size rfl (.tmp 69) (.tmp 74) 26 3 (.int .i64 0) 8 rfl Try.underlying26 info3 rfl (by decide) (by omega) (.slice (some ad455) x7_3.length co38) x7_3 (rd (rd_L1 l0 (rd x7_2 x8_2)) x10_3) [.int .i64 (rd (rd_L1 l0 (rd x7_2 x8_2)) x10_3)] (fun k_ => some k_ ≠ (.slice (some ⟨go15, 0, none⟩) x13_3.length co16 : Value).ownBlock) (fun _ => False) rfl (by first | (go_simp; done) | (go_simp; rfl)) ?aP (fun _ hk => hk.elim) ?aF ?aO ?aB ?aS ?aL ?_; (case aP => exact rfl); (case aB => exact (by repeat (first | (with_reducible first | exact HB.out | apply below_alloc | apply pw_below_drewN | apply below_drew1 | refine below_set ?_ GB15.out) | exact HB.out))); (case aF => exact (fun k_ hk => Kd.fresh' (Kd.R_lt (Zr HQ39.out)) k_ hk)); (case aO => exact (by (with_reducible repeat (first | apply Kd.R_alloc | apply Kd.R_drewN | apply Kd.R_drew)); exact Kd.R_mono (Kd.R_far (p := ⟨go15, ((rd (rd_L1 l0 (rd x7_2 x8_2)) x10_3) : Int).toNat, none⟩) (Kd.R_mono HO_7.out (fun k_ hk => (⟨hk, fun e_ => hk (by rw [e_]; rfl)⟩ : _ ∧ k_ ≠ go15))) (fun _ hk => hk.2) (.int .i64 (wrap64 ((rd x13_3 (rd x7_3 x8_2)) + 1)))) (fun _ hk => hk.1))); (case aS => exact (below_size (by repeat (first | (with_reducible first | exact HB.out | apply below_alloc | apply pw_below_drewN | apply below_drew1 | refine below_set ?_ GB15.out) | exact HB.out)))); (case aL => have := LMc36.out; omega); intro v460 w40 ho hb hg hat; rw [← Ny459.out] at ho; refine Y3 ?_ (Aside0.mk (Kd.R_after (ok := (fun _ => True)) (by (with_reducible repeat (first | apply Kd.R_alloc | apply Kd.R_drewN | apply Kd.R_drew)); exact Kd.R_mono HQ39.out (fun _ hk => ⟨trivial, hk⟩)) hg hat)) (Aside0.mk (hb)) (Aside0.mk (ho)); clear HO_13 HB HO_7 ho hb hg hat; intro HO_13 HB HO461)
 (try simp only [← hl13_3])
 first | go_roundg k3 | ((simp only [add_plain] at *); go_roundg k3)
 case measure => have := HK1.out; have := HK2.out; have := HK3.out; omega
 case rel => exact ⟨(y459), (wrap64 (x10_3 + 1)), (y457), Zq, H', ⟨by have := HK1.out; have := HK2.out; have := HK3.out; omega⟩, ⟨by (try simp only [hl13_2]); (try simp only [hl13_3]); (with_reducible repeat (first | apply Kd.R_alloc | apply Kd.R_drewN | apply Kd.R_drew)); exact HO461.out⟩, ⟨by (try simp only [hl13_2]); (try simp only [hl13_3]); (with_reducible repeat (first | apply Kd.R_alloc | apply Kd.R_drewN | apply Kd.R_drew)); exact Kd.R_mono HO_13.out (fun _ hk => hk.2)⟩, ⟨Zh⟩⟩
end Go.Proofs.Ytiimbndjggebdaa.Q
