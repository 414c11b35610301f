/- Printed by a program of ours (wip/tools/myprint.py) out of the translation: for Go functions of this seat plain Lean functions, and proofs that the calls come to what these say. Conditions: none. -/
import Derived.Test.YtiimbndjggebdaaC9Q0
import Derived.Test.YtiimbndjggebdaaC9S
namespace Go.Proofs.Ytiimbndjggebdaa.Q
open Go.RowKit Go.Proofs.YtiimbndjggebdaaW.PrintWords Go.Proofs.YtiimbndjggebdaaW.PrintLast Go.Proofs.YtiimbndjggebdaaW.PrintMore
attribute [local go_sem] max2_int min2_int max_two min_two max_three min_three max_four min_four   -- for this text's walks alone
set_option linter.unusedVariables false
set_option linter.unusedSimpArgs false
def laws_eqIntA2.l0 : Nat → Int → Int → Int → Int → Int → Option (Bool)
  | 0, _, _, _, _, _ => none
  | k + 1, x5, x359000, x359001, x360000, x360001 => if x5 < 2 then (if x5 = 0 then (if x359000 = x360000 then (laws_eqIntA2.l0 k (wrap64 (x5 + 1)) x359000 x359001 x360000 x360001) else (some false)) else (if x5 = 1 then (if x359001 = x360001 then (laws_eqIntA2.l0 k (wrap64 (x5 + 1)) x359000 x359001 x360000 x360001) else (some false)) else (none))) else (some true)
def laws_eqIntA2.f (k : Nat) (a0_0 : Int) (a0_1 : Int) (a1_0 : Int) (a1_1 : Int) : Option (Bool) := laws_eqIntA2.l0 k 0 a0_0 a0_1 a1_0 a1_1
set_option maxHeartbeats 8000000 in
set_option maxRecDepth 100000 in
theorem laws_eqIntA2.calls (k : Nat) (a0_0 : Int) (a0_1 : Int) (a1_0 : Int) (a1_1 : Int) (r : Bool) (w : World) (h : laws_eqIntA2.f k a0_0 a0_1 a1_0 a1_1 = some r) :
    Calls Try.prog 94 #[.agg #[.int .i64 a0_0, .int .i64 a0_1], .agg #[.int .i64 a1_0, .int .i64 a1_1]] w fun e w' => e = .returned (.bool r) ∧ Below w.heap.size w w' := by
 have hu52 := Try.underlying52; have HB := Aside0.mk (Below.refl w.heap.size w); have H : (laws_eqIntA2.l0 k 0 a0_0 a0_1 a1_0 a1_1) = some r := h; clear h; have H' := Aside0.mk H; clear H; go_enter Try.func94, Try.ntmps94; go_wp2_with (first | ((with_reducible refine ZD 2 rfl ?_); refine Zx #[.int .i64 a0_0, .int .i64 a0_1] 52 ?_; intro gb358 hg w3 hbox hb; refine Y4 ?_ (Zy Zh hb) (Aside0.mk hbox) (Zg hg (below_size Zh)) (Zg hg (below_size Zh)); clear HB hb hbox hg; intro HB BK358 GW358 GE358) | ((with_reducible refine ZD 3 rfl ?_); refine Zx #[.int .i64 a1_0, .int .i64 a1_1] 52 ?_; intro gb359 hg w4 hbox hb; refine Y7 ?_ (Zw (Zb BK358.out) hb) (Zy Zi hb) (Aside0.mk hbox) (Zg hg (below_size Zi)) (Zg hg (below_size Zi)) (Zl hg (Zb BK358.out)) (Zo hg (Zb BK358.out)); clear BK358 HB hb hbox hg; intro BK358 HB BK359 GW359 GE359 NB358_359 NB359_358))
 repeat (go_quiet (first | ((with_reducible refine gate_dst (N := 2) rfl ?_); refine box_event ?hg (N := 2) ?hd (cs := #[.int .i64 a0_0, .int .i64 a0_1]) (t := 52) ?hr ?_; (case hd => rfl); (case hg => rfl); (case hr => first | (go_simp; done) | (go_simp; rfl)); intro gb358 hg w3 hbox hb; have n0_ := Zy Zh hb; have n1_ := Aside0.mk hbox; have n2_ := Zg hg (below_size Zh); have n3_ := Zg hg (below_size Zh); clear HB; have HB := n0_; have BK358 := n1_; have GW358 := n2_; have GE358 := n3_; clear n0_ n1_ n2_ n3_; clear hb hbox hg) | ((with_reducible refine gate_dst (N := 3) rfl ?_); refine box_event ?hg (N := 3) ?hd (cs := #[.int .i64 a1_0, .int .i64 a1_1]) (t := 52) ?hr ?_; (case hd => rfl); (case hg => rfl); (case hr => first | (go_simp; done) | (go_simp; rfl)); intro gb359 hg w4 hbox hb; have n0_ := Zw (Zb BK358.out) hb; have n1_ := Zy Zi hb; have n2_ := Aside0.mk hbox; have n3_ := Zg hg (below_size Zi); have n4_ := Zg hg (below_size Zi); have n5_ := Zl hg (Zb BK358.out); have n6_ := Zo hg (Zb BK358.out); clear BK358; clear HB; have BK358 := n0_; have HB := n1_; have BK359 := n2_; have GW359 := n3_; have GE359 := n4_; have NB358_359 := n5_; have NB359_358 := n6_; clear n0_ n1_ n2_ n3_ n4_ n5_ n6_; clear hb hbox hg)); try go_wp2_with (first | ((with_reducible refine gate_dst (N := 2) rfl ?_); refine box_event ?hg (N := 2) ?hd (cs := #[.int .i64 a0_0, .int .i64 a0_1]) (t := 52) ?hr ?_; (case hd => rfl); (case hg => rfl); (case hr => first | (go_simp; done) | (go_simp; rfl)); intro gb358 hg w3 hbox hb; have n0_ := Zy Zh hb; have n1_ := Aside0.mk hbox; have n2_ := Zg hg (below_size Zh); have n3_ := Zg hg (below_size Zh); clear HB; have HB := n0_; have BK358 := n1_; have GW358 := n2_; have GE358 := n3_; clear n0_ n1_ n2_ n3_; clear hb hbox hg) | ((with_reducible refine gate_dst (N := 3) rfl ?_); refine box_event ?hg (N := 3) ?hd (cs := #[.int .i64 a1_0, .int .i64 a1_1]) (t := 52) ?hr ?_; (case hd => rfl); (case hg => rfl); (case hr => first | (go_simp; done) | (go_simp; rfl)); intro gb359 hg w4 hbox hb; have n0_ := Zw (Zb BK358.out) hb; have n1_ := Zy Zi hb; have n2_ := Aside0.mk hbox; have n3_ := Zg hg (below_size Zi); have n4_ := Zg hg (below_size Zi); have n5_ := Zl hg (Zb BK358.out); have n6_ := Zo hg (Zb BK358.out); clear BK358; clear HB; have BK358 := n0_; have HB := n1_; have BK359 := n2_; have GW359 := n3_; have GE359 := n4_; have NB358_359 := n5_; have NB359_358 := n6_; clear n0_ n1_ n2_ n3_ n4_ n5_ n6_; clear hb hbox hg)))
 go_loopg [5] k (fun kq v5 w' => ∃ (x5_1 : Int), v5 = .int .i64 x5_1 ∧ Aside0 (laws_eqIntA2.l0 kq x5_1 a0_0 a0_1 a1_0 a1_1 = some r) ∧ Aside0 (kq ≤ k) ∧ Aside0 (w'.heap[gb358]? = some (.cells #[.int .i64 a0_0, .int .i64 a0_1] 52 (0, 0))) ∧ Aside0 (w'.heap[gb359]? = some (.cells #[.int .i64 a1_0, .int .i64 a1_1] 52 (0, 0))) ∧ Aside0 (Below w.heap.size w w'))
 case atStart => exact ⟨(0), Zq, H', ⟨Nat.le_refl _⟩, ⟨Zb BK358.out⟩, ⟨Zb BK359.out⟩, ⟨Zi⟩⟩
 clear H'
 try clear p2
 obtain ⟨x5_1, rfl, HA, HK1, BK358, BK359, HB⟩ := hrel; rcases gk with _ | k1
 ·exact absurd HA.out (by simp [laws_eqIntA2.l0])
 have H := HA.out; clear HA; simp only [laws_eqIntA2.l0] at H; by_cases c5 : x5_1 < 2; rotate_left
 ·rw [if_neg c5] at H; have c5b0 := decide_eq_false c5; clear c5; obtain rfl := Option.some.inj H; go_wp2
  repeat (go_quiet (fail); try go_wp2)
  go_ret; exact ⟨Ze, Zi⟩
 rw [if_pos c5] at H; have c5b0 := decide_eq_true c5; clear c5; by_cases c6 : x5_1 = 0
 ·subst c6; have H1 : (if a0_0 = a1_0 then (laws_eqIntA2.l0 k1 1 a0_0 a0_1 a1_0 a1_1) else (some false)) = some r := by rw [if_pos rfl] at H; first | exact H | (simp only [w64_1, w64_2, w64_3, w64_4] at H; exact H)
  clear H; have H := H1; clear H1; by_cases c7 : a0_0 = a1_0; rotate_left
  ·rw [if_neg c7] at H; have c7b0 : (a0_0 == a1_0) = false := beq_eq_false_iff_ne.mpr c7; have c7b1 : (a0_0 != a1_0) = true := bne_iff_ne.mpr c7; obtain rfl := Option.some.inj H; have hnb11 := NB358_359.out; have hnc11 := NB359_358.out; have hcz12_0 := Z0 BK358; have hcz12_1 := Z1 BK358; have hfz12_0 := Zz BK358 0; have hfz12_1 := Zz BK358 1; have hcz13_0 := Z0 BK359; have hcz13_1 := Z1 BK359; have hfz13_0 := Zz BK359 0; have hfz13_1 := Zz BK359 1; go_wp2
   repeat (go_quiet (fail); try go_wp2)
   go_ret; exact ⟨Ze, Zi⟩
  rw [if_pos c7] at H; have c7b0 : (a0_0 == a1_0) = true := beq_iff_eq.mpr c7; have c7b1 : (a0_0 != a1_0) = false := bne_eq_false_iff_eq.mpr c7; clear c7; have H' := Aside0.mk H; clear H; have hnb8 := NB358_359.out; have hnc8 := NB359_358.out; have hcz9_0 := Z0 BK358; have hcz9_1 := Z1 BK358; have hfz9_0 := Zz BK358 0; have hfz9_1 := Zz BK358 1; have hcz10_0 := Z0 BK359; have hcz10_1 := Z1 BK359; have hfz10_0 := Zz BK359 0; have hfz10_1 := Zz BK359 1; go_wp2
  repeat (go_quiet (fail); try go_wp2)
  first | go_roundg k1 | ((simp only [add_plain] at *); go_roundg k1)
  case measure => have := HK1.out; omega
  case rel => exact ⟨(1), Zq, H', ⟨by have := HK1.out; omega⟩, ⟨Zb BK358.out⟩, ⟨Zb BK359.out⟩, ⟨Zi⟩⟩
 rw [if_neg c6] at H; by_cases c14 : x5_1 = 1; rotate_left
 ·rw [if_neg c14] at H; exact absurd H (by simp)
 subst c14; have H1 : (if a0_1 = a1_1 then (laws_eqIntA2.l0 k1 2 a0_0 a0_1 a1_0 a1_1) else (some false)) = some r := by rw [if_pos rfl] at H; first | exact H | (simp only [w64_1, w64_2, w64_3, w64_4] at H; exact H)
 clear H; have H := H1; clear H1; by_cases c15 : a0_1 = a1_1; rotate_left
 ·rw [if_neg c15] at H; have c15b0 : (a0_1 == a1_1) = false := beq_eq_false_iff_ne.mpr c15; have c15b1 : (a0_1 != a1_1) = true := bne_iff_ne.mpr c15; obtain rfl := Option.some.inj H; have hnb19 := NB358_359.out; have hnc19 := NB359_358.out; have hcz20_0 := Z0 BK358; have hcz20_1 := Z1 BK358; have hfz20_0 := Zz BK358 0; have hfz20_1 := Zz BK358 1; have hcz21_0 := Z0 BK359; have hcz21_1 := Z1 BK359; have hfz21_0 := Zz BK359 0; have hfz21_1 := Zz BK359 1; go_wp2
  repeat (go_quiet (fail); try go_wp2)
  go_ret; exact ⟨Ze, Zi⟩
 rw [if_pos c15] at H; have c15b0 : (a0_1 == a1_1) = true := beq_iff_eq.mpr c15; have c15b1 : (a0_1 != a1_1) = false := bne_eq_false_iff_eq.mpr c15; clear c15; have H' := Aside0.mk H; clear H; have hnb16 := NB358_359.out; have hnc16 := NB359_358.out; have hcz17_0 := Z0 BK358; have hcz17_1 := Z1 BK358; have hfz17_0 := Zz BK358 0; have hfz17_1 := Zz BK358 1; have hcz18_0 := Z0 BK359; have hcz18_1 := Z1 BK359; have hfz18_0 := Zz BK359 0; have hfz18_1 := Zz BK359 1; go_wp2
 repeat (go_quiet (fail); try go_wp2)
 first | go_roundg k1 | ((simp only [add_plain] at *); go_roundg k1)
 case measure => have := HK1.out; omega
 case rel => exact ⟨(2), Zq, H', ⟨by have := HK1.out; omega⟩, ⟨Zb BK358.out⟩, ⟨Zb BK359.out⟩, ⟨Zi⟩⟩
end Go.Proofs.Ytiimbndjggebdaa.Q
