/- Printed by a program of ours (wip/tools/myprint.py) out of the translation: for Go functions of this seat plain Lean functions, and proofs that the calls come to what these say. Conditions: none. -/
import Derived.Test.YtiimbndjggebdaaC9Q0
import Derived.Test.YtiimbndjggebdaaC9Fspecl2Induced
import Derived.Test.YtiimbndjggebdaaC9Fspecl11Under
import Derived.Test.YtiimbndjggebdaaC9Fspecl2Walk
import Derived.Test.YtiimbndjggebdaaC9S
namespace Go.Proofs.Ytiimbndjggebdaa.Q
open Go.RowKit Go.Proofs.YtiimbndjggebdaaW.PrintWords Go.Proofs.YtiimbndjggebdaaW.PrintLast Go.Proofs.YtiimbndjggebdaaW.PrintMore
attribute [local go_sem] max2_int min2_int max_two min_two max_three min_three max_four min_four   -- for this text's walks alone
set_option linter.unusedVariables false
set_option linter.unusedSimpArgs false
mutual
def spec_l11Low.l0 : Nat → Int → Int → Int → Int → Int → List Int → List Int → List (List Int) → List (S52) → Option (List Int)
  | 0, _, _, _, _, _, _, _, _, _ => none
  | k + 1, x2, x3, x13, x14, x16, x21, x25, x779000, x779001 => if x16 < (x21.length : Int) then (if 0 ≤ x16 then (if (rd x21 x16) = x2 then (if (rd x21 x16) = x3 then (spec_l11Low.l0 k x2 x3 x16 x16 (wrap64 (x16 + 1)) x21 x25 x779000 x779001) else (spec_l11Low.l0 k x2 x3 x16 x14 (wrap64 (x16 + 1)) x21 x25 x779000 x779001)) else (if (rd x21 x16) = x3 then (spec_l11Low.l0 k x2 x3 x13 x16 (wrap64 (x16 + 1)) x21 x25 x779000 x779001) else (spec_l11Low.l0 k x2 x3 x13 x14 (wrap64 (x16 + 1)) x21 x25 x779000 x779001))) else (none)) else (if x13 < 0 then (spec_l11Low.j1 k x21 x13 x14 x25 true x779000 x779001) else (spec_l11Low.j1 k x21 x13 x14 x25 (decide (x14 < 0)) x779000 x779001))
def spec_l11Low.j1 : Nat → List Int → Int → Int → List Int → Bool → List (List Int) → List (S52) → Option (List Int)
  | 0, _, _, _, _, _, _, _ => none
  | k + 1, x11, x13, x14, x15, x51, x779000, x779001 => if x51 = true then (some x15) else ((spec_l2Walk.f k x779000 x779001 x13 x14).bind fun t782 => (spec_l11Low.l1 k x11 x15 0 t782))
def spec_l11Low.l1 : Nat → List Int → List Int → Int → List Int → Option (List Int)
  | 0, _, _, _, _ => none
  | k + 1, x11, x15, x18, x56 => if x18 < (x56.length : Int) then (if 0 ≤ x18 then (if 0 ≤ (rd x56 x18) then (if (rd x56 x18) < (x11.length : Int) then (if x15.length < 17592186044416 then (spec_l11Low.l1 k x11 (x15 ++ [rd x11 (rd x56 x18)]) (wrap64 (x18 + 1)) x56) else (none)) else (none)) else (none)) else (none)) else (some x15)
end
def spec_l11Low.f (k : Nat) (l0_0 : List (List Int)) (l0_1 : List (S52)) (l1 : List Int) (a2 : Int) (a3 : Int) (a4 : Int) : Option (List Int) := (spec_l11Under.f k l1 a4).bind fun t766 => ((spec_l2Induced.f k l0_0 l0_1 t766).bind fun bt769 => (spec_l11Low.l0 k a2 a3 (-1) (-1) 0 t766 (([] : List Int)) bt769.1 bt769.2))
set_option maxHeartbeats 8000000 in
set_option maxRecDepth 100000 in
theorem spec_l11Low.calls (k : Nat) (A0_0 : Option Addr) (c0_0 : Nat) (l0_0 : List (List Int)) (A0_1 : Option Addr) (c0_1 : Nat) (l0_1 : List (S52)) (A1 : Option Addr) (c1 : Nat) (l1 : List Int) (a2 : Int) (a3 : Int) (a4 : Int) (r : List Int) (w : World) (hr0_0 : Kd.C (Kd.slice 3 (Kd.int .i64)) w A0_0 l0_0.length l0_0) (hc0_0 : l0_0.length ≤ c0_0) (hr0_1 : Kd.C k52 w A0_1 l0_1.length l0_1) (hc0_1 : l0_1.length ≤ c0_1) (hr1 : Kd.C (Kd.int .i64) w A1 l1.length l1) (hc1 : l1.length ≤ c1) (h : spec_l11Low.f k l0_0 l0_1 l1 a2 a3 a4 = some r) :
    Calls Try.prog 74 #[.agg #[.slice A0_0 l0_0.length c0_0, .slice A0_1 l0_1.length c0_1], .slice A1 l1.length c1, .int .i64 a2, .int .i64 a3, .int .i64 a4] w fun e w' => ∃ v0_ : Value, e = .returned (v0_) ∧ Kd.R (Kd.int .i64) 3 w' w.heap.size (fun _ => True) v0_ r ∧ Below w.heap.size w w' := by
 have hu30 := Try.underlying30; have HR0_0 := Aside0.mk hr0_0; have HC0_0 := Aside0.mk hc0_0; clear hr0_0 hc0_0; have HR0_1 := Aside0.mk hr0_1; have HC0_1 := Aside0.mk hc0_1; clear hr0_1 hc0_1; have HR1 := Aside0.mk hr1; have HC1 := Aside0.mk hc1; clear hr1 hc1; have HB := Aside0.mk (Below.refl w.heap.size w); have H : ((spec_l11Under.f k l1 a4).bind fun t766 => ((spec_l2Induced.f k l0_0 l0_1 t766).bind fun bt769 => (spec_l11Low.l0 k a2 a3 (-1) (-1) 0 t766 (([] : List Int)) bt769.1 bt769.2))) = some r := h; clear h; replace H := Option.bind_eq_some_iff.mp H; obtain ⟨t766, A60, H⟩ := H; replace H : ((spec_l2Induced.f k l0_0 l0_1 t766).bind fun bt769 => (spec_l11Low.l0 k a2 a3 (-1) (-1) 0 t766 (([] : List Int)) bt769.1 bt769.2)) = some r := H; have A6 := Aside0.mk A60; clear A60; replace H := Option.bind_eq_some_iff.mp H; obtain ⟨⟨t769, t772⟩, A70, H⟩ := H; replace H : (spec_l11Low.l0 k a2 a3 (-1) (-1) 0 t766 (([] : List Int)) t769 t772) = some r := H; have A7 := Aside0.mk A70; clear A70; obtain ⟨y775, hy775⟩ : ∃ y_ : List Int, y_ = (([] : List Int)) := ⟨_, rfl⟩; replace H : (spec_l11Low.l0 k a2 a3 (-1) (-1) 0 t766 y775 t769 t772) = some r := ZH hy775 H; have Ny775 := Aside0.mk hy775; clear hy775; have H' := Aside0.mk H; clear H; go_enter Try.func74, Try.ntmps74; go_wp2_with (first | ((with_reducible refine ZD 5 rfl ?_); refine Zx #[.slice A0_0 l0_0.length c0_0, .slice A0_1 l0_1.length c0_1] 30 ?_; intro gb765 hg w8 hbox hb; refine Y4 ?_ (Zy Zh hb) (Aside0.mk hbox) (Zg hg (below_size Zh)) (Zg hg (below_size Zh)); clear HB hb hbox hg; intro HB BK765 GW765 GE765) | ((with_reducible refine ZE 65 rfl ?_); refine Zc Try.func65 (some 21) #[.slice A1 l1.length c1, .int .i64 a4] ?_; refine (spec_l11Under.calls k _ _ l1 a4 t766 _ (Zj HR1.out) HC1.out A6.out).mono ?_; rintro e w9 ⟨v767, rfl, ho0, hb⟩; refine ⟨_, rfl, ?_⟩; refine Y3 ?_ (Aside0.mk (Kd.R_lower ho0 (below_size Zi))) (Zw (Zb BK765.out) hb) (Zy Zi hb); clear BK765 HB; intro HO768 BK765 HB; (try clear hb); (try clear hb2); (try clear hk); (try clear hi); (try clear ho0); have hcz10_0 := Z0 BK765; have hcz10_1 := Z1 BK765; have hfz10_0 := Zz BK765 0; have hfz10_1 := Zz BK765 1; obtain ⟨Ao11, co11, eo11⟩ := Kd.R_slice HO768.out; subst eo11) | ((with_reducible refine ZE 64 rfl ?_); refine Zc Try.func64 (some 24) #[.agg #[.slice A0_0 l0_0.length c0_0, .slice A0_1 l0_1.length c0_1], .slice Ao11 t766.length co11] ?_; refine (spec_l2Induced.calls k _ _ l0_0 _ _ l0_1 _ _ t766 t769 t772 _ (Zj HR0_0.out) HC0_0.out (Zj HR0_1.out) HC0_1.out (Zk (Kd.R_reads' HO768.out).2.2) (Kd.R_reads' HO768.out).2.1 A7.out).mono ?_; rintro e w12 ⟨v770, v773, rfl, ho0, ho1, hb⟩; refine ⟨_, rfl, ?_⟩; refine Y5 ?_ (Z4 (Zr HO768.out) hb) (Aside0.mk (Kd.S_lower (Kd.S_new' ho0 (Kd.R_lt (Zr HO768.out))) (below_size Zi))) (Aside0.mk (Kd.R_lower ho1 (below_size Zi))) (Zw (Zb BK765.out) hb) (Zy Zi hb); clear HO768 BK765 HB; intro HO768 HO771 HO774 BK765 HB; (try clear hb); (try clear hb2); (try clear hk); (try clear hi); (try clear ho0); (try clear ho1)) | ((with_reducible refine ZD 25 rfl ?_); refine Kd.R_lit (Kd.int .i64) _ 3 ?hg (N := 25) ?hd (xs := ([] : List Int)) (inner := []) (ok := fun _ => True) (okp := fun _ => True) ?hr ?hp (fun _ hk => hk) trivial (Below.refl _ _) (Nat.le_refl _) (by simp) ?_; (case hd => rfl); (case hg => rfl); (case hr => first | (go_simp; done) | (go_simp; rfl)); (case hp => exact (Reps.none _ _)); intro v776 w13 ho14 hb hg_ hnew_; clear hg_ hnew_; (first | rw [← Ny775.out] at ho14 | (simp only [Int.reduceToNat] at ho14; rw [← Ny775.out] at ho14)); refine Y6 ?_ (Aside0.mk (Kd.R_elder' (Zr HO768.out) (Kd.R_base ho14) hb)) (Aside0.mk (Kd.S_elder' (Zs HO771.out) (Kd.R_base ho14) hb)) (Z4 (Zr HO774.out) hb) (Aside0.mk (Kd.R_lower (Kd.R_new' ho14 (Kd.R_lt (Zr HO768.out))) (below_size Zi))) (Zw (Zb BK765.out) hb) (Zy Zi hb); clear HO768 HO771 HO774 BK765 HB hb ho14; intro HO768 HO771 HO774 HO777 BK765 HB) | ((with_reducible refine ZD 12 rfl ?_); refine Zx #[.slice none 0 0, .slice none 0 0] 30 ?_; intro gb778 hg w15 hbox hb; refine Y11 ?_ (Z4 (Zr HO768.out) hb) (Z5 (Zs HO771.out) hb) (Z4 (Zr HO774.out) hb) (Z4 (Zr HO777.out) hb) (Zw (Zb BK765.out) hb) (Zy Zi hb) (Aside0.mk hbox) (Zg hg (below_size Zi)) (Zg hg (below_size Zi)) (Zl hg (Zb BK765.out)) (Zo hg (Zb BK765.out)); clear HO768 HO771 HO774 HO777 BK765 HB hb hbox hg; intro HO768 HO771 HO774 HO777 BK765 HB BK778 GW778 GE778 NB765_778 NB778_765; obtain ⟨Ao16, co16, eo16⟩ := Kd.S_slice HO771.out; subst eo16; have hnb17 := NB778_765.out; have hnc17 := NB765_778.out; have hcz18_0 := Z0 BK778; have hcz18_1 := Z1 BK778; have hfz18_0 := Zz BK778 0; have hfz18_1 := Zz BK778 1; obtain ⟨Ao19, co19, eo19⟩ := Kd.R_slice HO774.out; subst eo19)); go_loopg [13, 14, 16] k (fun kq v13 v14 v16 w' => ∃ (x13_1 : Int) (x14_1 : Int) (x16_1 : Int), v13 = .int .i64 x13_1 ∧ v14 = .int .i64 x14_1 ∧ v16 = .int .i64 x16_1 ∧ Aside0 (spec_l11Low.l0 kq a2 a3 x13_1 x14_1 x16_1 t766 y775 t769 t772 = some r) ∧ Aside0 (kq ≤ k) ∧ Aside0 (Kd.R (Kd.int .i64) 3 w' w.heap.size (fun k_ => some k_ ≠ (v776 : Value).ownBlock) (.slice Ao11 t766.length co11) t766) ∧ Aside0 (Kd.R (Kd.int .i64) 3 w' w.heap.size (fun k_ => some k_ ≠ ((.slice Ao11 t766.length co11) : Value).ownBlock) v776 y775) ∧ Aside0 (Kd.S (Kd.slice 3 (Kd.int .i64)) 26 w' w.heap.size (fun k_ => some k_ ≠ ((.slice Ao11 t766.length co11) : Value).ownBlock ∧ some k_ ≠ (v776 : Value).ownBlock) (.slice Ao16 t769.length co16) t769) ∧ Aside0 (Kd.R k52 52 w' w.heap.size (fun _ => True) (.slice Ao19 t772.length co19) t772) ∧ Aside0 (w'.heap[gb765]? = some (.cells #[(.slice A0_0 l0_0.length c0_0), (.slice A0_1 l0_1.length c0_1)] 30 (0, 0))) ∧ Aside0 (w'.heap[gb778]? = some (.cells #[(.slice Ao16 t769.length co16), (.slice Ao19 t772.length co19)] 30 (0, 0))) ∧ Aside0 (Below w.heap.size w w'))
 case atStart => exact ⟨((-1)), ((-1)), (0), Zq, Zq, Zq, H', ⟨Nat.le_refl _⟩, ⟨by (with_reducible repeat (first | apply Kd.R_alloc | apply Kd.R_drewN | apply Kd.R_drew)); exact Kd.R_mono (Kd.R_far (p := ⟨gb778, 1, none⟩) (Kd.R_far (p := ⟨gb778, 0, none⟩) (Kd.R_types HO768.out BK778.out (by decide)) (fun _ hk => hk.2) (.slice Ao16 t769.length co16)) (fun _ hk => hk.2) (.slice Ao19 t772.length co19)) (fun _ hk => hk.1.2)⟩, ⟨by (with_reducible repeat (first | apply Kd.R_alloc | apply Kd.R_drewN | apply Kd.R_drew)); exact Kd.R_mono (Kd.R_far (p := ⟨gb778, 1, none⟩) (Kd.R_far (p := ⟨gb778, 0, none⟩) (Kd.R_types HO777.out BK778.out (by decide)) (fun _ hk => hk.2) (.slice Ao16 t769.length co16)) (fun _ hk => hk.2) (.slice Ao19 t772.length co19)) (fun _ hk => hk.1.2)⟩, ⟨by (with_reducible repeat (first | apply Kd.S_alloc | apply Kd.S_drewN | apply Kd.S_drew)); exact Kd.S_mono (Kd.S_far (p := ⟨gb778, 1, none⟩) (Kd.S_far (p := ⟨gb778, 0, none⟩) (Kd.S_types HO771.out BK778.out (by decide)) (fun _ hk => hk.2) (.slice Ao16 t769.length co16)) (fun _ hk => hk.2) (.slice Ao19 t772.length co19)) (fun _ hk => ⟨hk.1.1.2, hk.1.2⟩)⟩, ⟨by (with_reducible repeat (first | apply Kd.R_alloc | apply Kd.R_drewN | apply Kd.R_drew)); exact Kd.R_mono (Kd.R_far (p := ⟨gb778, 1, none⟩) (Kd.R_far (p := ⟨gb778, 0, none⟩) (Kd.R_types HO774.out BK778.out (by decide)) (fun _ hk => hk.2) (.slice Ao16 t769.length co16)) (fun _ hk => hk.2) (.slice Ao19 t772.length co19)) (fun _ hk => trivial)⟩, ⟨by (with_reducible repeat (first | refine blk_drewN ?_ _ | refine blk_drew ?_ | refine blk_alloc ?_ _)); refine blk_far ?_ NB765_778.out _; (with_reducible repeat (first | refine blk_drewN ?_ _ | refine blk_drew ?_ | refine blk_alloc ?_ _)); refine blk_far ?_ NB765_778.out _; (with_reducible repeat (first | refine blk_drewN ?_ _ | refine blk_drew ?_ | refine blk_alloc ?_ _)); exact BK765.out⟩, ⟨by (with_reducible repeat (first | refine blk_drewN ?_ _ | refine blk_drew ?_ | refine blk_alloc ?_ _)); refine blk_put (cs := #[.slice Ao16 t769.length co16, .slice none 0 0]) ?_ 1 _ rfl; (with_reducible repeat (first | refine blk_drewN ?_ _ | refine blk_drew ?_ | refine blk_alloc ?_ _)); refine blk_put (cs := #[.slice none 0 0, .slice none 0 0]) ?_ 0 _ rfl; (with_reducible repeat (first | refine blk_drewN ?_ _ | refine blk_drew ?_ | refine blk_alloc ?_ _)); exact BK778.out⟩, ⟨Zi⟩⟩
 clear H'
 try clear c1
 try clear p2
 try clear c6
 try clear c7
 try clear c17
 try clear hcz10_0
 try clear hcz10_1
 try clear hcz18_0
 try clear hcz18_1
 try clear hfz10_0
 try clear hfz10_1
 try clear hfz18_0
 try clear hfz18_1
 obtain ⟨x13_1, x14_1, x16_1, rfl, rfl, rfl, HA, HK1, HO_21, HO_25, HO_779000, HO_779001, BK765, BK778, HB⟩ := hrel; rcases gk with _ | k1
 ·exact absurd HA.out (by simp [spec_l11Low.l0])
 have H := HA.out; clear HA; simp only [spec_l11Low.l0] at H; by_cases c20 : x16_1 < (t766.length : Int)
 ·rw [if_pos c20] at H; have c20b0 := decide_eq_true c20; clear c20; replace H := Zu H; obtain ⟨c21, H⟩ := H; have c21b0 := decide_eq_true c21; clear c21; by_cases c22 : (rd t766 x16_1) = a2; rotate_left
  ·rw [if_neg c22] at H; have c22b0 : ((rd t766 x16_1) == a2) = false := beq_eq_false_iff_ne.mpr c22; have c22b1 : ((rd t766 x16_1) != a2) = true := bne_iff_ne.mpr c22; by_cases c24 : (rd t766 x16_1) = a3; rotate_left
   ·rw [if_neg c24] at H; have c24b0 : ((rd t766 x16_1) == a3) = false := beq_eq_false_iff_ne.mpr c24; have c24b1 : ((rd t766 x16_1) != a3) = true := bne_iff_ne.mpr c24; have H' := Aside0.mk H; clear H; have p779 : 0 ≤ (x16_1 : Int) := Zf; have q779 : x16_1 < (t766.length : Int) := Zf; obtain ⟨ad779, e779, hx779_0⟩ := Kd.at_int (Kd.R_reads' HO_21.out).2.2 x16_1 p779 q779; cases e779; replace p779 := eq_true p779; replace q779 := eq_true q779; have p781 : 0 ≤ (x16_1 : Int) := Zf; have q781 : x16_1 < (t766.length : Int) := Zf; obtain ⟨ad781, e781, hx781_0⟩ := Kd.at_int (Kd.R_reads' HO_21.out).2.2 x16_1 p781 q781; obtain rfl : ad779 = ad781 := (by injection e781); replace p781 := eq_true p781; replace q781 := eq_true q781; go_wp2
    first | go_roundg k1 | ((simp only [add_plain] at *); go_roundg k1)
    case measure => have := HK1.out; omega
    case rel => exact ⟨(x13_1), (x14_1), (wrap64 (x16_1 + 1)), Zq, Zq, Zq, H', ⟨by have := HK1.out; omega⟩, ⟨Zr HO_21.out⟩, ⟨Zr HO_25.out⟩, ⟨Zs HO_779000.out⟩, ⟨Zr HO_779001.out⟩, ⟨Zb BK765.out⟩, ⟨Zb BK778.out⟩, ⟨Zi⟩⟩
   rw [if_pos c24] at H; have c24b0 : ((rd t766 x16_1) == a3) = true := beq_iff_eq.mpr c24; have c24b1 : ((rd t766 x16_1) != a3) = false := bne_eq_false_iff_eq.mpr c24; clear c24; have H' := Aside0.mk H; clear H; have p779 : 0 ≤ (x16_1 : Int) := Zf; have q779 : x16_1 < (t766.length : Int) := Zf; obtain ⟨ad779, e779, hx779_0⟩ := Kd.at_int (Kd.R_reads' HO_21.out).2.2 x16_1 p779 q779; cases e779; replace p779 := eq_true p779; replace q779 := eq_true q779; have p781 : 0 ≤ (x16_1 : Int) := Zf; have q781 : x16_1 < (t766.length : Int) := Zf; obtain ⟨ad781, e781, hx781_0⟩ := Kd.at_int (Kd.R_reads' HO_21.out).2.2 x16_1 p781 q781; obtain rfl : ad779 = ad781 := (by injection e781); replace p781 := eq_true p781; replace q781 := eq_true q781; go_wp2
   first | go_roundg k1 | ((simp only [add_plain] at *); go_roundg k1)
   case measure => have := HK1.out; omega
   case rel => exact ⟨(x13_1), (x16_1), (wrap64 (x16_1 + 1)), Zq, Zq, Zq, H', ⟨by have := HK1.out; omega⟩, ⟨Zr HO_21.out⟩, ⟨Zr HO_25.out⟩, ⟨Zs HO_779000.out⟩, ⟨Zr HO_779001.out⟩, ⟨Zb BK765.out⟩, ⟨Zb BK778.out⟩, ⟨Zi⟩⟩
  rw [if_pos c22] at H; have c22b0 : ((rd t766 x16_1) == a2) = true := beq_iff_eq.mpr c22; have c22b1 : ((rd t766 x16_1) != a2) = false := bne_eq_false_iff_eq.mpr c22; clear c22; by_cases c23 : (rd t766 x16_1) = a3; rotate_left
  ·rw [if_neg c23] at H; have c23b0 : ((rd t766 x16_1) == a3) = false := beq_eq_false_iff_ne.mpr c23; have c23b1 : ((rd t766 x16_1) != a3) = true := bne_iff_ne.mpr c23; have H' := Aside0.mk H; clear H; have p779 : 0 ≤ (x16_1 : Int) := Zf; have q779 : x16_1 < (t766.length : Int) := Zf; obtain ⟨ad779, e779, hx779_0⟩ := Kd.at_int (Kd.R_reads' HO_21.out).2.2 x16_1 p779 q779; cases e779; replace p779 := eq_true p779; replace q779 := eq_true q779; have p780 : 0 ≤ (x16_1 : Int) := Zf; have q780 : x16_1 < (t766.length : Int) := Zf; obtain ⟨ad780, e780, hx780_0⟩ := Kd.at_int (Kd.R_reads' HO_21.out).2.2 x16_1 p780 q780; obtain rfl : ad779 = ad780 := (by injection e780); replace p780 := eq_true p780; replace q780 := eq_true q780; go_wp2
   first | go_roundg k1 | ((simp only [add_plain] at *); go_roundg k1)
   case measure => have := HK1.out; omega
   case rel => exact ⟨(x16_1), (x14_1), (wrap64 (x16_1 + 1)), Zq, Zq, Zq, H', ⟨by have := HK1.out; omega⟩, ⟨Zr HO_21.out⟩, ⟨Zr HO_25.out⟩, ⟨Zs HO_779000.out⟩, ⟨Zr HO_779001.out⟩, ⟨Zb BK765.out⟩, ⟨Zb BK778.out⟩, ⟨Zi⟩⟩
  rw [if_pos c23] at H; have c23b0 : ((rd t766 x16_1) == a3) = true := beq_iff_eq.mpr c23; have c23b1 : ((rd t766 x16_1) != a3) = false := bne_eq_false_iff_eq.mpr c23; clear c23; have H' := Aside0.mk H; clear H; have p779 : 0 ≤ (x16_1 : Int) := Zf; have q779 : x16_1 < (t766.length : Int) := Zf; obtain ⟨ad779, e779, hx779_0⟩ := Kd.at_int (Kd.R_reads' HO_21.out).2.2 x16_1 p779 q779; cases e779; replace p779 := eq_true p779; replace q779 := eq_true q779; have p780 : 0 ≤ (x16_1 : Int) := Zf; have q780 : x16_1 < (t766.length : Int) := Zf; obtain ⟨ad780, e780, hx780_0⟩ := Kd.at_int (Kd.R_reads' HO_21.out).2.2 x16_1 p780 q780; obtain rfl : ad779 = ad780 := (by injection e780); replace p780 := eq_true p780; replace q780 := eq_true q780; go_wp2
  first | go_roundg k1 | ((simp only [add_plain] at *); go_roundg k1)
  case measure => have := HK1.out; omega
  case rel => exact ⟨(x16_1), (x16_1), (wrap64 (x16_1 + 1)), Zq, Zq, Zq, H', ⟨by have := HK1.out; omega⟩, ⟨Zr HO_21.out⟩, ⟨Zr HO_25.out⟩, ⟨Zs HO_779000.out⟩, ⟨Zr HO_779001.out⟩, ⟨Zb BK765.out⟩, ⟨Zb BK778.out⟩, ⟨Zi⟩⟩
 rw [if_neg c20] at H; have c20b0 := decide_eq_false c20; clear c20; have HC25 := Aside0.mk H; clear H; go_upto_region 10 with (fail); go_cut [51] (fun v51 wc => ∃ (kq : Nat) (x51_24 : Bool), v51 = .bool x51_24 ∧ Aside0 (spec_l11Low.j1 kq t766 x13_1 x14_1 y775 x51_24 t769 t772 = some r) ∧ Aside0 (kq ≤ k1) ∧ Aside0 (Kd.R (Kd.int .i64) 3 wc w.heap.size (fun k_ => some k_ ≠ (v776 : Value).ownBlock) (.slice Ao11 t766.length co11) t766) ∧ Aside0 (Kd.R (Kd.int .i64) 3 wc w.heap.size (fun k_ => some k_ ≠ ((.slice Ao11 t766.length co11) : Value).ownBlock) v776 y775) ∧ Aside0 (Kd.S (Kd.slice 3 (Kd.int .i64)) 26 wc w.heap.size (fun k_ => some k_ ≠ ((.slice Ao11 t766.length co11) : Value).ownBlock ∧ some k_ ≠ (v776 : Value).ownBlock) (.slice Ao16 t769.length co16) t769) ∧ Aside0 (Kd.R k52 52 wc w.heap.size (fun _ => True) (.slice Ao19 t772.length co19) t772) ∧ Aside0 (wc.heap[gb765]? = some (.cells #[(.slice A0_0 l0_0.length c0_0), (.slice A0_1 l0_1.length c0_1)] 30 (0, 0))) ∧ Aside0 (wc.heap[gb778]? = some (.cells #[(.slice Ao16 t769.length co16), (.slice Ao19 t772.length co19)] 30 (0, 0))) ∧ Aside0 (Below w.heap.size w wc))
 case first =>
  have H := HC25.out; clear HC25; by_cases c26 : x13_1 < 0
  ·rw [if_pos c26] at H; have c26b0 := decide_eq_true c26; clear c26; (first | rw [c26b0] | (simp only [i64_w, i32_w]; rw [c26b0]) | skip); have H' := Aside0.mk H; clear H; go_wp2; go_meet
   case rel => exact ⟨_, (true), Zq, H', ⟨by have := HK1.out; first | omega | exact Nat.le_refl _⟩, ⟨Zr HO_21.out⟩, ⟨Zr HO_25.out⟩, ⟨Zs HO_779000.out⟩, ⟨Zr HO_779001.out⟩, ⟨Zb BK765.out⟩, ⟨Zb BK778.out⟩, ⟨Zi⟩⟩
  rw [if_neg c26] at H; have c26b0 := decide_eq_false c26; clear c26; (first | rw [c26b0] | (simp only [i64_w, i32_w]; rw [c26b0]) | skip); have H' := Aside0.mk H; clear H; go_wp2; go_meet
  case rel => exact ⟨_, (decide (x14_1 < 0)), Zq, H', ⟨by have := HK1.out; first | omega | exact Nat.le_refl _⟩, ⟨Zr HO_21.out⟩, ⟨Zr HO_25.out⟩, ⟨Zs HO_779000.out⟩, ⟨Zr HO_779001.out⟩, ⟨Zb BK765.out⟩, ⟨Zb BK778.out⟩, ⟨Zi⟩⟩
 clear HC25
 try clear c1
 try clear c2
 try clear p2
 try clear c6
 try clear p6
 try clear c7
 try clear p7
 try clear q7
 try clear hx7
 try clear c17
 try clear c20
 try clear c20b0
 try clear c21
 try clear c21b0
 try clear c22
 try clear c22b0
 try clear c22b1
 try clear c23
 try clear c23b0
 try clear c23b1
 try clear c24
 try clear c24b0
 try clear c24b1
 try clear c26
 try clear c26b0
 try clear hcz10_0
 try clear hcz10_1
 try clear hcz18_0
 try clear hcz18_1
 try clear hfz10_0
 try clear hfz10_1
 try clear hfz18_0
 try clear hfz18_1
 try clear hx779_0
 try clear hx780_0
 try clear hx781_0
 try clear p2
 try clear p779
 try clear p780
 try clear p781
 try clear q779
 try clear q780
 try clear q781
 obtain ⟨kq, x51_24, rfl, HA, HJ24, HO_11, HO_15, HO_779000, HO_779001, BK765, BK778, HB⟩ := hcut; rcases kq with _ | kj24
 ·exact absurd HA.out (by simp [spec_l11Low.j1])
 have H := HA.out; clear HA; simp only [spec_l11Low.j1] at H; by_cases c27 : x51_24 = true
 ·subst c27; have H1 : (some y775) = some r := by rw [if_pos rfl] at H; exact H
  clear H; have H := H1; clear H1; obtain rfl := Option.some.inj H; go_wp2; go_ret; exact ⟨_, Ze, by (with_reducible repeat (first | apply Kd.R_alloc | apply Kd.R_drewN | apply Kd.R_drew)); exact Kd.R_mono HO_15.out (fun _ hk => trivial), Zi⟩
 replace c27 := Bool.eq_false_iff.mpr c27; subst c27; have H1 : ((spec_l2Walk.f kj24 t769 t772 x13_1 x14_1).bind fun t782 => (spec_l11Low.l1 kj24 t766 y775 0 t782)) = some r := by rw [if_neg (show ¬ (false = true) by decide)] at H; exact H
 clear H; have H := H1; clear H1; replace H := Option.bind_eq_some_iff.mp H; obtain ⟨t782, A280, H⟩ := H; replace H : (spec_l11Low.l1 kj24 t766 y775 0 t782) = some r := H; have A28 := Aside0.mk A280; clear A280; have H' := Aside0.mk H; clear H; have hnb29 := NB778_765.out; have hnc29 := NB765_778.out; have hcz30_0 := Z0 BK778; have hcz30_1 := Z1 BK778; have hfz30_0 := Zz BK778 0; have hfz30_1 := Zz BK778 1; go_wp2_with ((with_reducible refine ZE 82 rfl ?_); refine Zc Try.func82 (some 56) #[.agg #[.slice Ao16 t769.length co16, .slice Ao19 t772.length co19], .int .i64 x13_1, .int .i64 x14_1] ?_; refine (spec_l2Walk.calls kj24 _ _ t769 _ _ t772 x13_1 x14_1 t782 _ (Zk (Kd.S_reads' HO_779000.out).2.2) (Kd.S_reads' HO_779000.out).2.1 (Zk (Kd.R_reads' HO_779001.out).2.2) (Kd.R_reads' HO_779001.out).2.1 A28.out).mono ?_; rintro e w31 ⟨v783, rfl, ho0, hb⟩; refine ⟨_, rfl, ?_⟩; refine Y8 ?_ (Aside0.mk (Kd.R_elder' (Zr HO_11.out) (Kd.R_base ho0) hb)) (Aside0.mk (Kd.R_elder' (Zr HO_15.out) (Kd.R_base ho0) hb)) (Aside0.mk (Kd.S_elder' (Zs HO_779000.out) (Kd.R_base ho0) hb)) (Z4 (Zr HO_779001.out) hb) (Aside0.mk (Kd.R_lower (Kd.R_new' (Kd.R_new' ho0 (Kd.R_lt (Zr HO_11.out))) (Kd.R_lt (Zr HO_15.out))) (below_size Zi))) (Zw (Zb BK765.out) hb) (Zw (Zb BK778.out) hb) (Zy Zi hb); clear HO_11 HO_15 HO_779000 HO_779001 BK765 BK778 HB; intro HO_11 HO_15 HO_779000 HO_779001 HO784 BK765 BK778 HB; (try clear hb); (try clear hb2); (try clear hk); (try clear hi); (try clear ho0)); go_loopg [15, 18] kj24 (fun kq v15 v18 w' => ∃ (x15_3 : List Int) (x18_3 : Int), v18 = .int .i64 x18_3 ∧ Aside0 (spec_l11Low.l1 kq t766 x15_3 x18_3 t782 = some r) ∧ Aside0 (kq ≤ kj24) ∧ Aside0 (Kd.R (Kd.int .i64) 3 w' w.heap.size (fun k_ => some k_ ≠ (v15 : Value).ownBlock ∧ some k_ ≠ (v783 : Value).ownBlock) (.slice Ao11 t766.length co11) t766) ∧ Aside0 (Kd.R (Kd.int .i64) 3 w' w.heap.size (fun k_ => some k_ ≠ ((.slice Ao11 t766.length co11) : Value).ownBlock ∧ some k_ ≠ (v783 : Value).ownBlock) v15 x15_3) ∧ Aside0 (Kd.R (Kd.int .i64) 3 w' w.heap.size (fun k_ => some k_ ≠ ((.slice Ao11 t766.length co11) : Value).ownBlock ∧ some k_ ≠ (v15 : Value).ownBlock) v783 t782) ∧ Aside0 (Kd.S (Kd.slice 3 (Kd.int .i64)) 26 w' w.heap.size (fun k_ => some k_ ≠ ((.slice Ao11 t766.length co11) : Value).ownBlock ∧ some k_ ≠ (v15 : Value).ownBlock ∧ some k_ ≠ (v783 : Value).ownBlock) (.slice Ao16 t769.length co16) t769) ∧ Aside0 (Kd.R k52 52 w' w.heap.size (fun _ => True) (.slice Ao19 t772.length co19) t772) ∧ Aside0 (w'.heap[gb765]? = some (.cells #[(.slice A0_0 l0_0.length c0_0), (.slice A0_1 l0_1.length c0_1)] 30 (0, 0))) ∧ Aside0 (w'.heap[gb778]? = some (.cells #[(.slice Ao16 t769.length co16), (.slice Ao19 t772.length co19)] 30 (0, 0))) ∧ Aside0 (Below w.heap.size w w'))
 case atStart => exact ⟨(y775), (0), Zq, H', ⟨Nat.le_refl _⟩, ⟨Zr HO_11.out⟩, ⟨Zr HO_15.out⟩, ⟨by (with_reducible repeat (first | apply Kd.R_alloc | apply Kd.R_drewN | apply Kd.R_drew)); exact Kd.R_mono HO784.out (fun _ hk => ⟨hk.1.2, hk.2⟩)⟩, ⟨by (with_reducible repeat (first | apply Kd.S_alloc | apply Kd.S_drewN | apply Kd.S_drew)); exact Kd.S_mono HO_779000.out (fun _ hk => ⟨hk.1.1, ⟨hk.1.2, hk.2⟩⟩)⟩, ⟨Zr HO_779001.out⟩, ⟨Zb BK765.out⟩, ⟨Zb BK778.out⟩, ⟨Zi⟩⟩
 clear H'
 try clear c1
 try clear c2
 try clear p2
 try clear c6
 try clear p6
 try clear c7
 try clear p7
 try clear q7
 try clear hx7
 try clear c8
 try clear c17
 try clear c20
 try clear c20b0
 try clear c21
 try clear c21b0
 try clear c22
 try clear c22b0
 try clear c22b1
 try clear c23
 try clear c23b0
 try clear c23b1
 try clear c24
 try clear c24b0
 try clear c24b1
 try clear c26
 try clear c26b0
 try clear c27
 try clear c29
 try clear hcz10_0
 try clear hcz10_1
 try clear hcz18_0
 try clear hcz18_1
 try clear hcz30_0
 try clear hcz30_1
 try clear hfz10_0
 try clear hfz10_1
 try clear hfz18_0
 try clear hfz18_1
 try clear hfz30_0
 try clear hfz30_1
 try clear hx779_0
 try clear hx780_0
 try clear hx781_0
 try clear p2
 try clear p6
 try clear p7
 try clear p779
 try clear p780
 try clear p781
 try clear q7
 try clear q779
 try clear q780
 try clear q781
 obtain ⟨x15_3, x18_3, rfl, HA, HK3, HO_11, HO_15, HO_56, HO_779000, HO_779001, BK765, BK778, HB⟩ := hrel; rcases gk with _ | k3
 ·exact absurd HA.out (by simp [spec_l11Low.l1])
 have H := HA.out; clear HA; simp only [spec_l11Low.l1] at H; by_cases c32 : x18_3 < (t782.length : Int); rotate_left
 ·rw [if_neg c32] at H; have c32b0 := decide_eq_false c32; clear c32; obtain rfl := Option.some.inj H; obtain ⟨Ao39, co39, eo39⟩ := Kd.R_slice HO_56.out; subst eo39; go_wp2; go_ret; exact ⟨_, Ze, by (with_reducible repeat (first | apply Kd.R_alloc | apply Kd.R_drewN | apply Kd.R_drew)); exact Kd.R_mono HO_15.out (fun _ hk => trivial), Zi⟩
 rw [if_pos c32] at H; have c32b0 := decide_eq_true c32; clear c32; replace H := Zu H; obtain ⟨c33, H⟩ := H; have c33b0 := decide_eq_true c33; clear c33; replace H := Zu H; obtain ⟨c34, H⟩ := H; have c34b0 := decide_eq_true c34; clear c34; replace H := Zu H; obtain ⟨c35, H⟩ := H; have c35b0 := decide_eq_true c35; clear c35; replace H := Zu H; obtain ⟨c36, H⟩ := H; have LMc36 := Aside0.mk c36; clear c36; obtain ⟨y787, hy787⟩ : ∃ y_ : List Int, y_ = (x15_3 ++ [rd t766 (rd t782 x18_3)]) := ⟨_, rfl⟩; replace H : (spec_l11Low.l1 k3 t766 y787 (wrap64 (x18_3 + 1)) t782) = some r := ZH hy787 H; have Ny787 := Aside0.mk hy787; clear hy787; have H' := Aside0.mk H; clear H; obtain ⟨Ao37, co37, eo37⟩ := Kd.R_slice HO_56.out; subst eo37; have p785 : 0 ≤ (x18_3 : Int) := Zf; have q785 : x18_3 < (t782.length : Int) := Zf; obtain ⟨ad785, e785, hx785_0⟩ := Kd.at_int (Kd.R_reads' HO_56.out).2.2 x18_3 p785 q785; cases e785; replace p785 := eq_true p785; replace q785 := eq_true q785; have p786 : 0 ≤ ((rd t782 x18_3) : Int) := Zf; have q786 : (rd t782 x18_3) < (t766.length : Int) := Zf; obtain ⟨ad786, e786, hx786_0⟩ := Kd.at_int (Kd.R_reads' HO_11.out).2.2 (rd t782 x18_3) p786 q786; cases e786; replace p786 := eq_true p786; replace q786 := eq_true q786; go_wp2_with ((with_reducible refine gate_builtin (b := .append) (xs := #[.tmp 63, .tmp 71]) rfl ?_); at_builtin; refine Kd.R_append (Kd.int .i64) (w0 := w) w.heap.size rfl (.tmp 63) (.tmp 71) 26 3 (.int .i64 0) 8 rfl Try.underlying26 info3 rfl (by decide) (by omega) u15 x15_3 (rd t766 (rd t782 x18_3)) [.int .i64 (rd t766 (rd t782 x18_3))] (fun k_ => some k_ ≠ (.slice (some ad786) t766.length co11 : Value).ownBlock ∧ some k_ ≠ (.slice (some ad785) t782.length co37 : Value).ownBlock) (fun _ => False) rfl rfl ?aP (fun _ hk => hk.elim) ?aF ?aO ?aB ?aS ?aL ?_; (case aP => exact rfl); (case aB => exact Zi); (case aF => exact (fun k_ hk => ⟨Kd.fresh' (Kd.R_lt (Zr HO_11.out)) k_ hk, Kd.fresh' (Kd.R_lt (Zr HO_56.out)) k_ hk⟩)); (case aO => exact (Zr HO_15.out)); (case aS => exact (below_size Zi)); (case aL => have := LMc36.out; omega); intro v788 w38 ho hb hg hat; rw [← Ny787.out] at ho; refine Y8 ?_ (Aside0.mk (Kd.R_after (ok := (fun k_ => some k_ ≠ (.slice (some ad785) t782.length co37 : Value).ownBlock)) (by (with_reducible repeat (first | apply Kd.R_alloc | apply Kd.R_drewN | apply Kd.R_drew)); exact Kd.R_mono HO_11.out (fun _ hk => ⟨hk.2, hk.1⟩)) hg hat)) (Aside0.mk (Kd.R_after (ok := (fun k_ => some k_ ≠ (.slice (some ad786) t766.length co11 : Value).ownBlock)) (Zr HO_56.out) hg hat)) (Aside0.mk (Kd.S_after (ok := (fun k_ => some k_ ≠ (.slice (some ad786) t766.length co11 : Value).ownBlock ∧ some k_ ≠ (.slice (some ad785) t782.length co37 : Value).ownBlock)) (by (with_reducible repeat (first | apply Kd.S_alloc | apply Kd.S_drewN | apply Kd.S_drew)); exact Kd.S_mono HO_779000.out (fun _ hk => ⟨⟨hk.1, hk.2.2⟩, hk.2.1⟩)) hg hat)) (Aside0.mk (Kd.R_over' (Zr HO_779001.out) (Kd.R_typed (Zr HO_15.out)) (by decide) hg)) (Aside0.mk (blk_grown (g := gb765) (o := .cells #[.slice A0_0 l0_0.length c0_0, .slice A0_1 l0_1.length c0_1] 30 (0, 0)) (Zb BK765.out) hg (Kd.R_ne HO_15.out BK765.out (by decide)))) (Aside0.mk (blk_grown (g := gb778) (o := .cells #[.slice Ao16 t769.length co16, .slice Ao19 t772.length co19] 30 (0, 0)) (Zb BK778.out) hg (Kd.R_ne HO_15.out BK778.out (by decide)))) (Aside0.mk (hb)) (Aside0.mk (ho)); clear HO_11 HO_56 HO_779000 HO_779001 BK765 BK778 HB HO_15 ho hb hg hat; intro HO_11 HO_56 HO_779000 HO_779001 BK765 BK778 HB HO789)
 first | go_roundg k3 | ((simp only [add_plain] at *); go_roundg k3)
 case measure => have := HK1.out; have := HJ24.out; have := HK3.out; omega
 case rel => exact ⟨(y787), (wrap64 (x18_3 + 1)), Zq, H', ⟨by have := HK1.out; have := HJ24.out; have := HK3.out; omega⟩, ⟨by (with_reducible repeat (first | apply Kd.R_alloc | apply Kd.R_drewN | apply Kd.R_drew)); exact Kd.R_mono HO_11.out (fun _ hk => ⟨hk.2, hk.1⟩)⟩, ⟨Zr HO789.out⟩, ⟨Zr HO_56.out⟩, ⟨by (with_reducible repeat (first | apply Kd.S_alloc | apply Kd.S_drewN | apply Kd.S_drew)); exact Kd.S_mono HO_779000.out (fun _ hk => ⟨hk.1.1, ⟨hk.2, hk.1.2⟩⟩)⟩, ⟨Zr HO_779001.out⟩, ⟨Zb BK765.out⟩, ⟨Zb BK778.out⟩, ⟨Zi⟩⟩
end Go.Proofs.Ytiimbndjggebdaa.Q
