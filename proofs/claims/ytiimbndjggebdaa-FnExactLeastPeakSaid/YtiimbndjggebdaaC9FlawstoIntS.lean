/- Printed by a program of ours (wip/tools/myprint.py) out of the translation: for Go functions of this seat plain Lean functions, and proofs that the calls come to what these say. Conditions: none. -/
import Derived.Test.YtiimbndjggebdaaC9Q0
import Derived.Test.YtiimbndjggebdaaC9S
namespace Go.Proofs.Ytiimbndjggebdaa.Q
open Go.RowKit Go.Proofs.YtiimbndjggebdaaW.PrintWords Go.Proofs.YtiimbndjggebdaaW.PrintLast Go.Proofs.YtiimbndjggebdaaW.PrintMore
attribute [local go_sem] max2_int min2_int max_two min_two max_three min_three max_four min_four   -- for this text's walks alone
set_option linter.unusedVariables false
set_option linter.unusedSimpArgs false
def laws_toIntS.l0 : Nat → List Int → Int → List Int → Option (List Int)
  | 0, _, _, _ => none
  | k + 1, x0, x4, x7 => if x4 < (x0.length : Int) then (if 0 ≤ x4 then (if x4 < (x7.length : Int) then (laws_toIntS.l0 k x0 (wrap64 (x4 + 1)) (x7.set (x4 : Int).toNat (rd x0 x4))) else (none)) else (none)) else (some x7)
def laws_toIntS.f (k : Nat) (l0 : List Int) : Option (List Int) := if 0 ≤ (l0.length : Int) then (if ((l0.length : Int) : Int).toNat ≤ 35184372088832 then (laws_toIntS.l0 k l0 0 (List.replicate ((l0.length : Int) : Int).toNat 0)) else (none)) else (none)
set_option maxHeartbeats 8000000 in
set_option maxRecDepth 100000 in
theorem laws_toIntS.calls (k : Nat) (A0 : Option Addr) (c0 : Nat) (l0 : List Int) (r : List Int) (w : World) (hr0 : Kd.C (Kd.int .i64) w A0 l0.length l0) (hc0 : l0.length ≤ c0) (h : laws_toIntS.f k l0 = some r) :
    Calls Try.prog 13 #[.slice A0 l0.length c0] w fun e w' => ∃ v0_ : Value, e = .returned (v0_) ∧ Kd.R (Kd.int .i64) 3 w' w.heap.size (fun _ => True) v0_ r ∧ Below w.heap.size w w' := by
 have HR0 := Aside0.mk hr0; have HC0 := Aside0.mk hc0; clear hr0 hc0; have HB := Aside0.mk (Below.refl w.heap.size w); have H : (if 0 ≤ (l0.length : Int) then (if ((l0.length : Int) : Int).toNat ≤ 35184372088832 then (laws_toIntS.l0 k l0 0 (List.replicate ((l0.length : Int) : Int).toNat 0)) else (none)) else (none)) = some r := h; clear h; replace H := Zu H; obtain ⟨c2, H⟩ := H; have c2b0 := eq_true c2; have c2b1 := decide_eq_true c2; clear c2; replace H := Zu H; obtain ⟨c3, H⟩ := H; have c3b0 := eq_true c3; have c3b1 := decide_eq_true c3; clear c3; obtain ⟨y265, hy265⟩ : ∃ y_ : List Int, y_ = (List.replicate ((l0.length : Int) : Int).toNat 0) := ⟨_, rfl⟩; replace H : (laws_toIntS.l0 k l0 0 y265) = some r := ZH hy265 H; have Ny265 := Aside0.mk hy265; clear hy265; have H' := Aside0.mk H; clear H; go_enter Try.func13, Try.ntmps13; go_wp2_with ((with_reducible refine ZD 7 rfl ?_); refine Kd.R_make (Kd.int .i64) _ 3 rfl (N := 7) rfl 26 _ _ rfl (l0.length : Int) rfl rfl Try.underlying26 (.int .i64 0) 8 info3 rfl (by decide) (by omega) 0 (ok := fun _ => True) (okp := fun _ => True) rfl (fun _ hk => hk) trivial Zf (Nat.le_trans (Nat.mul_le_mul_right _ (Zf : (l0.length : Int).toNat ≤ 35184372088832)) (by omega)) (Below.refl _ _) (Nat.le_refl _) ?_; intro v266 w4 ho5 hb hg_ hnew_; clear hg_ hnew_; (first | rw [← Ny265.out] at ho5 | (simp only [Int.reduceToNat] at ho5; rw [← Ny265.out] at ho5)); refine Y2 ?_ (Aside0.mk (Kd.R_lower ho5 (below_size Zh))) (Zy Zh hb); clear HB hb ho5; intro HO267 HB); go_loopg [4] k (fun kq v4 w' => ∃ (x4_1 : Int) (x7_1 : List Int), v4 = .int .i64 x4_1 ∧ Aside0 (laws_toIntS.l0 kq l0 x4_1 x7_1 = some r) ∧ Aside0 (kq ≤ k) ∧ Aside0 (Kd.R (Kd.int .i64) 3 w' w.heap.size (fun _ => True) v266 x7_1) ∧ Aside0 (Below w.heap.size w w'))
 case atStart => exact ⟨(0), (y265), Zq, H', ⟨Nat.le_refl _⟩, ⟨Zr HO267.out⟩, ⟨Zh⟩⟩
 clear H'
 try clear c1
 try clear c2
 try clear c2b0
 try clear c2b1
 try clear p2
 try clear c3
 try clear c3b0
 try clear c3b1
 obtain ⟨x4_1, x7_1, rfl, HA, HK1, HO_7, HB⟩ := hrel; rcases gk with _ | k1
 ·exact absurd HA.out (by simp [laws_toIntS.l0])
 have H := HA.out; clear HA; simp only [laws_toIntS.l0] at H; by_cases c6 : x4_1 < (l0.length : Int); rotate_left
 ·rw [if_neg c6] at H; have c6b0 := decide_eq_false c6; clear c6; obtain rfl := Option.some.inj H; go_wp2; go_ret; exact ⟨_, Ze, Zr HO_7.out, Zh⟩
 rw [if_pos c6] at H; have c6b0 := decide_eq_true c6; clear c6; replace H := Zu H; obtain ⟨c7, H⟩ := H; have c7b0 := decide_eq_true c7; clear c7; replace H := Zu H; obtain ⟨c8, H⟩ := H; have c8b0 := decide_eq_true c8; clear c8; obtain ⟨y269, hy269⟩ : ∃ y_ : List Int, y_ = (x7_1.set (x4_1 : Int).toNat (rd l0 x4_1)) := ⟨_, rfl⟩; replace H : (laws_toIntS.l0 k1 l0 (wrap64 (x4_1 + 1)) y269) = some r := ZH hy269 H; have Ny269 := Aside0.mk hy269; clear hy269; have H' := Aside0.mk H; clear H; have p268 : 0 ≤ (x4_1 : Int) := Zf; have q268 : x4_1 < (l0.length : Int) := Zf; obtain ⟨ad268, e268, hx268_0⟩ := Kd.at_int HR0.out x4_1 p268 q268; cases e268; replace hx268_0 := Z3 HB hx268_0; replace p268 := eq_true p268; replace q268 := eq_true q268; have p9 : 0 ≤ (x4_1 : Int) := Zf; have q9 : (x4_1 : Int) < ((x7_1.length : Int) : Int) := Zf; obtain ⟨go9, co9, eo9, gb9, gl9, cl9, HG9⟩ := Kd.R_form HO_7.out (by omega); (first | cases eo9 | (injection eo9 with ea_ en_ ec_; (first | subst ea_ | (injection ea_ with ea_; subst ea_)); subst ec_; clear en_)); have GB9 := Aside0.mk gb9; have GG9 := Aside0.mk HG9; clear gb9 gl9 HG9; obtain ⟨hx9_0, hf9_0⟩ := Kd.R_celln 0 HO_7.out (x4_1 : Int) p9 q9; replace p9 := eq_true p9; replace q9 := eq_true q9; have HP10 := Kd.R_putg HO_7.out (x4_1 : Int) (rd l0 x4_1); go_wp2_with ((with_reducible refine gate_store (t := 3) (p := 20) rfl ?_); refine store_event (t := 3) (p := 20) (v := ?vo_w11) (w1 := (wr.setCell ⟨go9, (x4_1 : Int).toNat, none⟩ (.int .i64 (rd l0 x4_1)))) ?hg ?ho ?hn ?hr ?_; (case ho => rfl); (case hg => rfl); (case hn => rfl); (case hr => first | (go_simp; done) | (go_simp; rfl)); intro w11 hw; have hg : wr.grownBy w11 (some go9) := (by rw [hw]; exact HP10.2); have hp_ : Kd.R (Kd.int .i64) 3 w11 w.heap.size (fun _ => True) (.slice (some ⟨go9, 0, none⟩) x7_1.length co9) y269 := (by rw [hw, Ny269.out]; exact HP10.1); clear HP10; refine Y2 ?_ (Aside0.mk (hp_)) (Aside0.mk ((by rw [hw]; exact below_set (HB.out) GB9.out : Below w.heap.size w w11))); clear HO_7 HB hg hw hp_; intro HO_7 HB)
 first | go_roundg k1 | ((simp only [add_plain] at *); go_roundg k1)
 case measure => have := HK1.out; omega
 case rel => exact ⟨(wrap64 (x4_1 + 1)), (y269), Zq, H', ⟨by have := HK1.out; omega⟩, ⟨Zr HO_7.out⟩, ⟨Zh⟩⟩
end Go.Proofs.Ytiimbndjggebdaa.Q
