/- Printed by a program of ours (wip/tools/myprint.py) out of the translation: for Go functions of this seat plain Lean functions, and proofs that the calls come to what these say. Conditions: none. -/
import Derived.Test.YtiimbndjggebdaaC9Q0
import Derived.Test.YtiimbndjggebdaaC9S
namespace Go.Proofs.Ytiimbndjggebdaa.Q
open Go.RowKit Go.Proofs.YtiimbndjggebdaaW.PrintWords Go.Proofs.YtiimbndjggebdaaW.PrintLast Go.Proofs.YtiimbndjggebdaaW.PrintMore
attribute [local go_sem] max2_int min2_int max_two min_two max_three min_three max_four min_four   -- for this text's walks alone
set_option linter.unusedVariables false
set_option linter.unusedSimpArgs false
def laws_szIntS.f (l0 : List Int) (a1 : Int) : Option (Int) := if (wrap64 (a1 - (l0.length : Int))) < 0 then (some (-1)) else (some (wrap64 (a1 - (l0.length : Int))))
set_option maxHeartbeats 8000000 in
set_option maxRecDepth 100000 in
theorem laws_szIntS.calls (A0 : Option Addr) (c0 : Nat) (l0 : List Int) (a1 : Int) (r : Int) (w : World) (hr0 : Kd.C (Kd.int .i64) w A0 l0.length l0) (hc0 : l0.length ≤ c0) (h : laws_szIntS.f l0 a1 = some r) :
    Calls Try.prog 84 #[.slice A0 l0.length c0, .int .i64 a1] w fun e w' => e = .returned (.int .i64 r) ∧ Drawn0 w w' := by
 have HR0 := Aside0.mk hr0; have HC0 := Aside0.mk hc0; clear hr0 hc0; have H : (if (wrap64 (a1 - (l0.length : Int))) < 0 then (some (-1)) else (some (wrap64 (a1 - (l0.length : Int))))) = some r := h; clear h; by_cases c3 : (wrap64 (a1 - (l0.length : Int))) < 0
 ·rw [if_pos c3] at H; have c3b0 := decide_eq_true c3; clear c3; obtain rfl := Option.some.inj H; go_enter Try.func84, Try.ntmps84; go_wp2; go_ret; exact ⟨Zq, Zd⟩
 rw [if_neg c3] at H; have c3b0 := decide_eq_false c3; clear c3; obtain rfl := Option.some.inj H; go_enter Try.func84, Try.ntmps84; go_wp2; go_ret; exact ⟨Zq, Zd⟩
def laws_szIntSS.l0 : Nat → List (List Int) → Int → Int → Option (Int)
  | 0, _, _, _ => none
  | k + 1, x0, x1, x5 => if x5 < (x0.length : Int) then (if 0 ≤ x5 then ((laws_szIntS.f (rd_L1 x0 x5) x1).bind fun t102 => (if t102 < 0 then (some (-1)) else (laws_szIntSS.l0 k x0 t102 (wrap64 (x5 + 1))))) else (none)) else (some x1)
def laws_szIntSS.f (k : Nat) (l0 : List (List Int)) (a1 : Int) : Option (Int) := if (wrap64 (a1 - (l0.length : Int))) < 0 then (some (-1)) else (laws_szIntSS.l0 k l0 (wrap64 (a1 - (l0.length : Int))) 0)
set_option maxHeartbeats 8000000 in
set_option maxRecDepth 100000 in
theorem laws_szIntSS.calls (k : Nat) (A0 : Option Addr) (c0 : Nat) (l0 : List (List Int)) (a1 : Int) (r : Int) (w : World) (hr0 : Kd.C (Kd.slice 3 (Kd.int .i64)) w A0 l0.length l0) (hc0 : l0.length ≤ c0) (h : laws_szIntSS.f k l0 a1 = some r) :
    Calls Try.prog 39 #[.slice A0 l0.length c0, .int .i64 a1] w fun e w' => e = .returned (.int .i64 r) ∧ Drawn0 w w' := by
 have HR0 := Aside0.mk hr0; have HC0 := Aside0.mk hc0; clear hr0 hc0; have H : (if (wrap64 (a1 - (l0.length : Int))) < 0 then (some (-1)) else (laws_szIntSS.l0 k l0 (wrap64 (a1 - (l0.length : Int))) 0)) = some r := h; clear h; by_cases c3 : (wrap64 (a1 - (l0.length : Int))) < 0
 ·rw [if_pos c3] at H; have c3b0 := decide_eq_true c3; clear c3; obtain rfl := Option.some.inj H; go_enter Try.func39, Try.ntmps39; go_wp2; go_ret; exact ⟨Zq, Zd⟩
 rw [if_neg c3] at H; have c3b0 := decide_eq_false c3; clear c3; have H' := Aside0.mk H; clear H; go_enter Try.func39, Try.ntmps39; go_wp2; go_loopg [1, 5] k (fun kq v1 v5 w' => ∃ (x1_1 : Int) (x5_1 : Int), v1 = .int .i64 x1_1 ∧ v5 = .int .i64 x5_1 ∧ Aside0 (laws_szIntSS.l0 kq l0 x1_1 x5_1 = some r) ∧ Aside0 (kq ≤ k) ∧ Drawn0 w w')
 case atStart => exact ⟨(wrap64 (a1 - (l0.length : Int))), (0), Zq, Zq, H', ⟨Nat.le_refl _⟩, Zd⟩
 clear H'
 try clear p2
 try clear c3
 try clear c3b0
 obtain ⟨x1_1, x5_1, rfl, rfl, HA, HK1, ⟨m1, rfl⟩⟩ := hrel; rcases gk with _ | k1
 ·exact absurd HA.out (by simp [laws_szIntSS.l0])
 have H := HA.out; clear HA; simp only [laws_szIntSS.l0] at H; by_cases c4 : x5_1 < (l0.length : Int); rotate_left
 ·rw [if_neg c4] at H; have c4b0 := decide_eq_false c4; clear c4; obtain rfl := Option.some.inj H; go_wp2; go_ret; exact ⟨Zq, Zd⟩
 rw [if_pos c4] at H; have c4b0 := decide_eq_true c4; clear c4; replace H := Zu H; obtain ⟨c5, H⟩ := H; have c5b0 := decide_eq_true c5; clear c5; replace H := Option.bind_eq_some_iff.mp H; obtain ⟨t102, A60, H⟩ := H; replace H : (if t102 < 0 then (some (-1)) else (laws_szIntSS.l0 k1 l0 t102 (wrap64 (x5_1 + 1)))) = some r := H; have A6 := Aside0.mk A60; clear A60; by_cases c7 : t102 < 0
 ·rw [if_pos c7] at H; have c7b0 := decide_eq_true c7; clear c7; obtain rfl := Option.some.inj H; have p101 : 0 ≤ (x5_1 : Int) := Zf; have q101 : x5_1 < (l0.length : Int) := Zf; obtain ⟨ad101, A101_0, c101_0, e101, hx101_0, hl101_0, hi101_0⟩ := at_L1 HR0.out x5_1 p101 q101; cases e101; have HR101_0 := Aside0.mk hi101_0; have HC101_0 := Aside0.mk hl101_0; clear hi101_0 hl101_0; replace p101 := eq_true p101; replace q101 := eq_true q101; go_wp2_with ((with_reducible refine ZE 84 rfl ?_); refine Zc Try.func84 (some 23) #[.slice A101_0 (rd_L1 l0 x5_1).length c101_0, .int .i64 x1_1] ?_; refine (laws_szIntS.calls _ _ (rd_L1 l0 x5_1) x1_1 t102 _ (Zk HR101_0.out) HC101_0.out A6.out).mono ?_; rintro e w' ⟨rfl, ⟨nd, rfl⟩⟩; refine ⟨_, rfl, ?_⟩); go_ret; exact ⟨Zq, Zd⟩
 rw [if_neg c7] at H; have c7b0 := decide_eq_false c7; clear c7; have H' := Aside0.mk H; clear H; have p101 : 0 ≤ (x5_1 : Int) := Zf; have q101 : x5_1 < (l0.length : Int) := Zf; obtain ⟨ad101, A101_0, c101_0, e101, hx101_0, hl101_0, hi101_0⟩ := at_L1 HR0.out x5_1 p101 q101; cases e101; have HR101_0 := Aside0.mk hi101_0; have HC101_0 := Aside0.mk hl101_0; clear hi101_0 hl101_0; replace p101 := eq_true p101; replace q101 := eq_true q101; go_wp2_with ((with_reducible refine ZE 84 rfl ?_); refine Zc Try.func84 (some 23) #[.slice A101_0 (rd_L1 l0 x5_1).length c101_0, .int .i64 x1_1] ?_; refine (laws_szIntS.calls _ _ (rd_L1 l0 x5_1) x1_1 t102 _ (Zk HR101_0.out) HC101_0.out A6.out).mono ?_; rintro e w' ⟨rfl, ⟨nd, rfl⟩⟩; refine ⟨_, rfl, ?_⟩)
 first | go_roundg k1 | ((simp only [add_plain] at *); go_roundg k1)
 case measure => have := HK1.out; omega
 case rel => exact ⟨(t102), (wrap64 (x5_1 + 1)), Zq, Zq, H', ⟨by have := HK1.out; omega⟩, Zd⟩
def laws_szIntA2S.f (l0 : List (S52)) (a1 : Int) : Option (Int) := if (wrap64 (a1 - (l0.length : Int))) < 0 then (some (-1)) else (some (wrap64 (a1 - (l0.length : Int))))
set_option maxHeartbeats 8000000 in
set_option maxRecDepth 100000 in
theorem laws_szIntA2S.calls (A0 : Option Addr) (c0 : Nat) (l0 : List (S52)) (a1 : Int) (r : Int) (w : World) (hr0 : Kd.C k52 w A0 l0.length l0) (hc0 : l0.length ≤ c0) (h : laws_szIntA2S.f l0 a1 = some r) :
    Calls Try.prog 40 #[.slice A0 l0.length c0, .int .i64 a1] w fun e w' => e = .returned (.int .i64 r) ∧ Drawn0 w w' := by
 have HR0 := Aside0.mk hr0; have HC0 := Aside0.mk hc0; clear hr0 hc0; have H : (if (wrap64 (a1 - (l0.length : Int))) < 0 then (some (-1)) else (some (wrap64 (a1 - (l0.length : Int))))) = some r := h; clear h; by_cases c3 : (wrap64 (a1 - (l0.length : Int))) < 0
 ·rw [if_pos c3] at H; have c3b0 := decide_eq_true c3; clear c3; obtain rfl := Option.some.inj H; go_enter Try.func40, Try.ntmps40; go_wp2; go_ret; exact ⟨Zq, Zd⟩
 rw [if_neg c3] at H; have c3b0 := decide_eq_false c3; clear c3; obtain rfl := Option.some.inj H; go_enter Try.func40, Try.ntmps40; go_wp2; go_ret; exact ⟨Zq, Zd⟩
def laws_szSpace.f (k : Nat) (l0_0 : List (List Int)) (l0_1 : List (S52)) (a1 : Int) : Option (Int) := (laws_szIntSS.f k l0_0 a1).bind fun t104 => (if t104 < 0 then (some (-1)) else ((laws_szIntA2S.f l0_1 t104).bind fun t105 => (if t105 < 0 then (some (-1)) else (some t105))))
set_option maxHeartbeats 8000000 in
set_option maxRecDepth 100000 in
theorem laws_szSpace.calls (k : Nat) (A0_0 : Option Addr) (c0_0 : Nat) (l0_0 : List (List Int)) (A0_1 : Option Addr) (c0_1 : Nat) (l0_1 : List (S52)) (a1 : Int) (r : Int) (w : World) (hr0_0 : Kd.C (Kd.slice 3 (Kd.int .i64)) w A0_0 l0_0.length l0_0) (hc0_0 : l0_0.length ≤ c0_0) (hr0_1 : Kd.C k52 w A0_1 l0_1.length l0_1) (hc0_1 : l0_1.length ≤ c0_1) (h : laws_szSpace.f k l0_0 l0_1 a1 = some r) :
    Calls Try.prog 10 #[.agg #[.slice A0_0 l0_0.length c0_0, .slice A0_1 l0_1.length c0_1], .int .i64 a1] w fun e w' => e = .returned (.int .i64 r) ∧ Below w.heap.size w w' := by
 have hu25 := Try.underlying25; have HR0_0 := Aside0.mk hr0_0; have HC0_0 := Aside0.mk hc0_0; clear hr0_0 hc0_0; have HR0_1 := Aside0.mk hr0_1; have HC0_1 := Aside0.mk hc0_1; clear hr0_1 hc0_1; have HB := Aside0.mk (Below.refl w.heap.size w); have H : ((laws_szIntSS.f k l0_0 a1).bind fun t104 => (if t104 < 0 then (some (-1)) else ((laws_szIntA2S.f l0_1 t104).bind fun t105 => (if t105 < 0 then (some (-1)) else (some t105))))) = some r := h; clear h; replace H := Option.bind_eq_some_iff.mp H; obtain ⟨t104, A30, H⟩ := H; replace H : (if t104 < 0 then (some (-1)) else ((laws_szIntA2S.f l0_1 t104).bind fun t105 => (if t105 < 0 then (some (-1)) else (some t105)))) = some r := H; have A3 := Aside0.mk A30; clear A30; by_cases c4 : t104 < 0
 ·rw [if_pos c4] at H; have c4b0 := decide_eq_true c4; clear c4; obtain rfl := Option.some.inj H; go_enter Try.func10, Try.ntmps10; go_wp2_with (first | ((with_reducible refine ZD 2 rfl ?_); refine Zx #[.slice A0_0 l0_0.length c0_0, .slice A0_1 l0_1.length c0_1] 25 ?_; intro gb103 hg w5 hbox hb; refine Y4 ?_ (Zy Zh hb) (Aside0.mk hbox) (Zg hg (below_size Zh)) (Zg hg (below_size Zh)); clear HB hb hbox hg; intro HB BK103 GW103 GE103; have hcz6_0 := Z0 BK103; have hcz6_1 := Z1 BK103; have hfz6_0 := Zz BK103 0; have hfz6_1 := Zz BK103 1) | ((with_reducible refine ZE 39 rfl ?_); refine Zc Try.func39 (some 8) #[.slice A0_0 l0_0.length c0_0, .int .i64 a1] ?_; refine (laws_szIntSS.calls k _ _ l0_0 a1 t104 _ (Zj HR0_0.out) HC0_0.out A3.out).mono ?_; rintro e w' ⟨rfl, ⟨nd, rfl⟩⟩; refine ⟨_, rfl, ?_⟩)); go_ret; exact ⟨Ze, Zi⟩
 rw [if_neg c4] at H; have c4b0 := decide_eq_false c4; clear c4; replace H := Option.bind_eq_some_iff.mp H; obtain ⟨t105, A70, H⟩ := H; replace H : (if t105 < 0 then (some (-1)) else (some t105)) = some r := H; have A7 := Aside0.mk A70; clear A70; by_cases c8 : t105 < 0
 ·rw [if_pos c8] at H; have c8b0 := decide_eq_true c8; clear c8; obtain rfl := Option.some.inj H; go_enter Try.func10, Try.ntmps10; go_wp2_with (first | ((with_reducible refine ZD 2 rfl ?_); refine Zx #[.slice A0_0 l0_0.length c0_0, .slice A0_1 l0_1.length c0_1] 25 ?_; intro gb103 hg w9 hbox hb; refine Y4 ?_ (Zy Zh hb) (Aside0.mk hbox) (Zg hg (below_size Zh)) (Zg hg (below_size Zh)); clear HB hb hbox hg; intro HB BK103 GW103 GE103; have hcz10_0 := Z0 BK103; have hcz10_1 := Z1 BK103; have hfz10_0 := Zz BK103 0; have hfz10_1 := Zz BK103 1) | ((with_reducible refine ZE 39 rfl ?_); refine Zc Try.func39 (some 8) #[.slice A0_0 l0_0.length c0_0, .int .i64 a1] ?_; refine (laws_szIntSS.calls k _ _ l0_0 a1 t104 _ (Zj HR0_0.out) HC0_0.out A3.out).mono ?_; rintro e w' ⟨rfl, ⟨nd, rfl⟩⟩; refine ⟨_, rfl, ?_⟩) | ((with_reducible refine ZE 40 rfl ?_); refine Zc Try.func40 (some 14) #[.slice A0_1 l0_1.length c0_1, .int .i64 t104] ?_; refine (laws_szIntA2S.calls _ _ l0_1 t104 t105 _ (Zk (Kd.C_below HR0_1.out Zi)) HC0_1.out A7.out).mono ?_; rintro e w' ⟨rfl, ⟨nd, rfl⟩⟩; refine ⟨_, rfl, ?_⟩)); go_ret; exact ⟨Ze, Zi⟩
 rw [if_neg c8] at H; have c8b0 := decide_eq_false c8; clear c8; obtain rfl := Option.some.inj H; go_enter Try.func10, Try.ntmps10; go_wp2_with (first | ((with_reducible refine ZD 2 rfl ?_); refine Zx #[.slice A0_0 l0_0.length c0_0, .slice A0_1 l0_1.length c0_1] 25 ?_; intro gb103 hg w11 hbox hb; refine Y4 ?_ (Zy Zh hb) (Aside0.mk hbox) (Zg hg (below_size Zh)) (Zg hg (below_size Zh)); clear HB hb hbox hg; intro HB BK103 GW103 GE103; have hcz12_0 := Z0 BK103; have hcz12_1 := Z1 BK103; have hfz12_0 := Zz BK103 0; have hfz12_1 := Zz BK103 1) | ((with_reducible refine ZE 39 rfl ?_); refine Zc Try.func39 (some 8) #[.slice A0_0 l0_0.length c0_0, .int .i64 a1] ?_; refine (laws_szIntSS.calls k _ _ l0_0 a1 t104 _ (Zj HR0_0.out) HC0_0.out A3.out).mono ?_; rintro e w' ⟨rfl, ⟨nd, rfl⟩⟩; refine ⟨_, rfl, ?_⟩) | ((with_reducible refine ZE 40 rfl ?_); refine Zc Try.func40 (some 14) #[.slice A0_1 l0_1.length c0_1, .int .i64 t104] ?_; refine (laws_szIntA2S.calls _ _ l0_1 t104 t105 _ (Zk (Kd.C_below HR0_1.out Zi)) HC0_1.out A7.out).mono ?_; rintro e w' ⟨rfl, ⟨nd, rfl⟩⟩; refine ⟨_, rfl, ?_⟩)); go_ret; exact ⟨Ze, Zi⟩
def spec_l1In.f (a0 : Int) (a1 : Int) (a2 : Int) : Option (Bool) := if a0 ≥ a1 then (some (decide (a0 ≤ a2))) else (some false)
set_option maxHeartbeats 8000000 in
set_option maxRecDepth 100000 in
theorem spec_l1In.calls (a0 : Int) (a1 : Int) (a2 : Int) (r : Bool) (w : World) (h : spec_l1In.f a0 a1 a2 = some r) :
    Calls Try.prog 119 #[.int .i64 a0, .int .i64 a1, .int .i64 a2] w fun e w' => e = .returned (.bool r) ∧ Drawn0 w w' := by
 have H : (if a0 ≥ a1 then (some (decide (a0 ≤ a2))) else (some false)) = some r := h; clear h; by_cases c4 : a0 ≥ a1
 ·rw [if_pos c4] at H; have c4b0 : decide (a1 ≤ a0) = true := decide_eq_true c4; clear c4; obtain rfl := Option.some.inj H; go_enter Try.func119, Try.ntmps119; go_wp2; go_ret; exact ⟨Zq, Zd⟩
 rw [if_neg c4] at H; have c4b0 : decide (a1 ≤ a0) = false := decide_eq_false c4; clear c4; obtain rfl := Option.some.inj H; go_enter Try.func119, Try.ntmps119; go_wp2; go_ret; exact ⟨Zq, Zd⟩
def spec_l2State.l0 : Nat → List Int → Int → Option (Bool)
  | 0, _, _ => none
  | k + 1, x0, x3 => if x3 < (x0.length : Int) then (if 0 ≤ x3 then ((spec_l1In.f (rd x0 x3) (-99) 99).bind fun t107 => (if t107 = true then (spec_l2State.l0 k x0 (wrap64 (x3 + 1))) else (some false))) else (none)) else (some (decide ((x0.length : Int) ≤ 24)))
def spec_l2State.f (k : Nat) (l0 : List Int) : Option (Bool) := spec_l2State.l0 k l0 0
set_option maxHeartbeats 8000000 in
set_option maxRecDepth 100000 in
theorem spec_l2State.calls (k : Nat) (A0 : Option Addr) (c0 : Nat) (l0 : List Int) (r : Bool) (w : World) (hr0 : Kd.C (Kd.int .i64) w A0 l0.length l0) (hc0 : l0.length ≤ c0) (h : spec_l2State.f k l0 = some r) :
    Calls Try.prog 121 #[.slice A0 l0.length c0] w fun e w' => e = .returned (.bool r) ∧ Drawn0 w w' := by
 have HR0 := Aside0.mk hr0; have HC0 := Aside0.mk hc0; clear hr0 hc0; have H : (spec_l2State.l0 k l0 0) = some r := h; clear h; have H' := Aside0.mk H; clear H; go_enter Try.func121, Try.ntmps121; go_wp2; go_loopg [3] k (fun kq v3 w' => ∃ (x3_1 : Int), v3 = .int .i64 x3_1 ∧ Aside0 (spec_l2State.l0 kq l0 x3_1 = some r) ∧ Aside0 (kq ≤ k) ∧ Drawn0 w w')
 case atStart => exact ⟨(0), Zq, H', ⟨Nat.le_refl _⟩, Zd⟩
 clear H'
 try clear c1
 obtain ⟨x3_1, rfl, HA, HK1, ⟨m1, rfl⟩⟩ := hrel; rcases gk with _ | k1
 ·exact absurd HA.out (by simp [spec_l2State.l0])
 have H := HA.out; clear HA; simp only [spec_l2State.l0] at H; by_cases c2 : x3_1 < (l0.length : Int); rotate_left
 ·rw [if_neg c2] at H; have c2b0 := decide_eq_false c2; clear c2; obtain rfl := Option.some.inj H; go_wp2; go_ret; exact ⟨Zq, Zd⟩
 rw [if_pos c2] at H; have c2b0 := decide_eq_true c2; clear c2; replace H := Zu H; obtain ⟨c3, H⟩ := H; have c3b0 := decide_eq_true c3; clear c3; replace H := Option.bind_eq_some_iff.mp H; obtain ⟨t107, A40, H⟩ := H; replace H : (if t107 = true then (spec_l2State.l0 k1 l0 (wrap64 (x3_1 + 1))) else (some false)) = some r := H; have A4 := Aside0.mk A40; clear A40; by_cases c5 : t107 = true; rotate_left
 ·replace c5 := Bool.eq_false_iff.mpr c5; subst c5; have H1 : (some false) = some r := by rw [if_neg (show ¬ (false = true) by decide)] at H; exact H
  clear H; have H := H1; clear H1; obtain rfl := Option.some.inj H; have p106 : 0 ≤ (x3_1 : Int) := Zf; have q106 : x3_1 < (l0.length : Int) := Zf; obtain ⟨ad106, e106, hx106_0⟩ := Kd.at_int HR0.out x3_1 p106 q106; cases e106; replace p106 := eq_true p106; replace q106 := eq_true q106; go_wp2_with ((with_reducible refine ZE 119 rfl ?_); refine Zc Try.func119 (some 14) #[.int .i64 (rd l0 x3_1), .int .i64 (-99), .int .i64 99] ?_; (with_reducible refine (spec_l1In.calls (rd l0 x3_1) (-99) 99 false _ A4.out).mono ?_); rintro e w' ⟨rfl, ⟨nd, rfl⟩⟩; refine ⟨_, rfl, ?_⟩); go_ret; exact ⟨Zq, Zd⟩
 subst c5; have H1 : (spec_l2State.l0 k1 l0 (wrap64 (x3_1 + 1))) = some r := by rw [if_pos rfl] at H; exact H
 clear H; have H := H1; clear H1; have H' := Aside0.mk H; clear H; have p106 : 0 ≤ (x3_1 : Int) := Zf; have q106 : x3_1 < (l0.length : Int) := Zf; obtain ⟨ad106, e106, hx106_0⟩ := Kd.at_int HR0.out x3_1 p106 q106; cases e106; replace p106 := eq_true p106; replace q106 := eq_true q106; go_wp2_with ((with_reducible refine ZE 119 rfl ?_); refine Zc Try.func119 (some 14) #[.int .i64 (rd l0 x3_1), .int .i64 (-99), .int .i64 99] ?_; (with_reducible refine (spec_l1In.calls (rd l0 x3_1) (-99) 99 true _ A4.out).mono ?_); rintro e w' ⟨rfl, ⟨nd, rfl⟩⟩; refine ⟨_, rfl, ?_⟩)
 first | go_roundg k1 | ((simp only [add_plain] at *); go_roundg k1)
 case measure => have := HK1.out; omega
 case rel => exact ⟨(wrap64 (x3_1 + 1)), Zq, H', ⟨by have := HK1.out; omega⟩, Zd⟩
end Go.Proofs.Ytiimbndjggebdaa.Q
