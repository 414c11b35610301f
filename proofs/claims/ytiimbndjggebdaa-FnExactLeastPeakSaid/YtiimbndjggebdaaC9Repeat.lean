/- slices.Repeat of a list of one number. Conditions: none. -/
import Derived.Laws.CopyOwn
import Derived.Test.YtiimbndjggebdaaC9S
import Derived.Test.YtiimbndjggebdaaC9FcmpCompareint
import Derived.Test.YtiimbndjggebdaaC9Q0
namespace Go.Proofs.Ytiimbndjggebdaa.Q
open Go.RowKit Go.Proofs.YtiimbndjggebdaaW.PrintWords Go.Proofs.YtiimbndjggebdaaW.PrintLast Go.Proofs.YtiimbndjggebdaaW.PrintMore
set_option linter.unusedVariables false
set_option linter.unusedSimpArgs false
theorem mul_one_calls (n : Nat) (hn : n ≤ 1048576) (w : World) : Calls Try.prog 163 #[.int .u64 1, .int .u64 n] w fun e w' => e = .returned (.tuple #[.int .u64 0, .int .u64 n]) ∧ w = w' := by
  refine (Try.bits_Mul 1 n (by omega) (by omega) w).mono ?_
  rintro e w' ⟨rfl, rfl⟩
  refine ⟨?_, rfl⟩
  rw [Nat.one_mul, Nat.div_eq_of_lt (by omega), Nat.mod_eq_of_lt (by omega)]
  rfl
set_option maxHeartbeats 8000000 in
set_option maxRecDepth 100000 in
theorem repeat_zero (b off c0 : Nat) (w : World) :
    Calls Try.prog 149 #[.slice (some ⟨b, off, none⟩) 1 c0, .int .i64 0] w fun e w' => ∃ v0_ : Value, e = .returned (v0_) ∧ Kd.R (Kd.int .i64) 3 w' w.heap.size (fun _ => True) v0_ [] ∧ Below w.heap.size w w' := by
  have hM := Aside0.mk (mul_one_calls 0 (by omega))
  go_enter Try.func149, Try.ntmps149
  go_wp2_with (first
    | (go_at_call 163; refine (hM.out _).mono ?_; rintro e w' ⟨rfl, rfl⟩)
    | ((with_reducible refine ZD 30 rfl ?_); refine Kd.R_make (Kd.int .i64) _ 3 rfl (N := 30) rfl 26 _ _ rfl (0 : Int) rfl rfl Try.underlying26 (.int .i64 0) 8 info3 rfl (by decide) (by omega) 0 (ok := fun _ => True) (okp := fun _ => True) rfl (fun _ hk => hk) trivial (by omega) (by omega) (Below.refl _ _) (Nat.le_refl _) ?_; intro v w1 ho hb hg_ hnew_; clear hg_ hnew_; obtain ⟨A, c, e⟩ := Kd.R_slice ho; subst e; have HO := Aside0.mk ho; have HB := Aside0.mk hb; clear ho hb)
    | ((with_reducible refine ZD 33 rfl ?_); refine wpList_copy_nothing rfl (.tmp 31) (.tmp 32) 26 26 rfl 3 Try.underlying26 (by kernel_rfl) A (some ⟨b, off, none⟩) 0 c 1 c0 rfl rfl rfl ?_))
  refine wp_loop_once ?_
  go_wp2
  go_ret
  exact ⟨_, rfl, HO.out, HB.out⟩
theorem own_some {w : World} {base : Nat} {ok : Nat → Prop} {v : Value} {xs : List Int} (h : Kd.R (Kd.int .i64) 3 w base ok v xs) (hp : 0 < xs.length) :
    ∃ (g cap : Nat) (cur : List Value), v = .slice (some ⟨g, 0, none⟩) xs.length cap ∧ base ≤ g ∧ w.heap[g]? = some (.cells cur.toArray 3 (0, 0)) ∧ xs.length ≤ cap ∧ cap ≤ maxLen ∧ cur.length = cap := by
  rcases (Kd.own_of_R h).2 with ⟨_, h0⟩ | ⟨g, cap, cur, rfl, hg, hbk, hn, hcap, hsz, htk⟩
  · omega
  · exact ⟨g, cap, cur.toList, rfl, hg, by simpa using hbk, hn, hcap, by simpa using hsz⟩
def repT : Bool × List (List Nat × List Nat) := (true, [([], []), ([], []), ([], []), ([1, 2], [1, 2]), ([], []), ([], []), ([4, 5], [4, 5]), ([3, 6], [3, 6]), ([0, 7], [0, 7]), ([8, 7, 0, 1, 2, 3, 4, 5, 6, 7, 8], [0, 2, 5, 8])])
def repB : List Nat := [0, 0, 0, 6, 0, 0, 48, 126, 255, 511]
theorem rep_tab : rtab .any (opsOf Try.f149 9) = repT := by kernel_rfl
theorem rep_bits : waitsOk repT.2 repB = true := by kernel_rfl
theorem splice_take {cur : List Value} {k m n : Nat} {y : Value} (hk : cur.take k = List.replicate k y) (hm : k + m ≤ cur.length) : (splice cur k (List.replicate m y)).take (k + m) = List.replicate (k + m) y := by
  have e : cur.take k ++ List.replicate m y = List.replicate (k + m) y := by rw [hk, List.replicate_append_replicate]
  unfold splice
  rw [← List.append_assoc, e, List.take_append_of_le_length (by simp)]
  exact List.take_of_length_le (by simp)
set_option maxHeartbeats 8000000 in
set_option maxRecDepth 100000 in
theorem repeat_some (b off c0 n : Nat) (x : Int) (w : World) (hn1 : 1 ≤ n) (hn2 : n ≤ 1048576) (hx : w.cell? ⟨b, off, none⟩ = some (.int .i64 x)) :
    Calls Try.prog 149 #[.slice (some ⟨b, off, none⟩) 1 c0, .int .i64 n] w fun e w' => ∃ v0_ : Value, e = .returned (v0_) ∧ Kd.R (Kd.int .i64) 3 w' w.heap.size (fun _ => True) v0_ (List.replicate n x) ∧ Below w.heap.size w w' := by
  have hM := Aside0.mk (mul_one_calls n hn2)
  have HX := Aside0.mk hx
  clear hx
  have hneg : decide ((n : Int) < 0) = false := decide_eq_false (by omega)
  go_enter Try.func149, Try.ntmps149
  go_wp2_with (first
    | (go_at_call 163; refine (hM.out _).mono ?_; rintro e w' ⟨rfl, rfl⟩)
    | ((with_reducible refine ZD 30 rfl ?_); refine Kd.R_make (Kd.int .i64) _ 3 rfl (N := 30) rfl 26 _ _ rfl (n : Int) rfl rfl Try.underlying26 (.int .i64 0) 8 info3 rfl (by decide) (by omega) 0 (ok := fun _ => True) (okp := fun _ => True) rfl (fun _ hk => hk) trivial (by omega) (by omega) (Below.refl _ _) (Nat.le_refl _) ?_; intro v w1 ho hb hg_ hnew_; clear hg_ hnew_; have HO := Aside0.mk ho; have HB := Aside0.mk hb; clear ho hb; obtain ⟨g, cap, cur, e, hg, hbk, hlc, hcm, hcl⟩ := own_some HO.out (by simp; omega); simp only [Int.toNat_natCast, List.length_replicate] at e hlc; subst e; have HG := Aside0.mk hg; have HK := Aside0.mk hbk; have HC := Aside0.mk hcl; clear hg hbk hcl HO)
    | ((with_reducible refine ZD 33 rfl ?_); refine wpList_copy_splice rfl (.tmp 31) (.tmp 32) 26 26 rfl 3 Try.underlying26 (by kernel_rfl) (some ⟨g, 0, none⟩) (some ⟨b, off, none⟩) n cap 1 c0 rfl rfl g 0 cur 3 HK.out [.int .i64 x] (by show 1 = Nat.min 1 n; unfold Nat.min; omega) (fun _ => ⟨rfl, _, rfl, fun j y hj => by cases j with | zero => (simp at hj; subst hj; exact (HB.out.cell (World.block_lt_of_cell? w _ HX.out)).trans HX.out) | succ j => simp at hj⟩) (by have := HC.out; simp; omega) (by simp [Value.oneCell']) w.heap.size w HB.out HG.out ?_; intro w2 hh hb2; have HK2 := Aside0.mk hh.out; have HB2 := Aside0.mk hb2; clear hh hb2))
  go_loopw [8] (fun v8 wr => ∃ (k : Nat) (cu : List Value), v8 = .int .i64 k ∧ Aside0 (1 ≤ k ∧ k ≤ n) ∧ Aside0 (wr.heap[g]? = some (.cells cu.toArray 3 (0, 0))) ∧ Aside0 (cu.length = cap ∧ cu.take k = List.replicate k (.int .i64 x)) ∧ Aside0 (Below w.heap.size w wr)) (fun v8 _ => n - (intOf v8).toNat)
  case atStart => exact ⟨1, splice cur 0 [.int .i64 x], rfl, ⟨Nat.le_refl _, hn1⟩, HK2, ⟨(length_splice cur 0 [.int .i64 x] (by have := HC.out; simp; omega)).trans HC.out, splice_take (cur := cur) (k := 0) (m := 1) (n := n) rfl (by have := HC.out; omega)⟩, HB2⟩
  case round =>
    obtain ⟨k, cu, rfl, HKn, HK3, HC3, HB3⟩ := hrel
    clear HK2 HB2
    by_cases hlt : k < n
    · have hk1 := HKn.out.1
      have hkc : k ≤ cap := by omega
      have hkc2 : ¬ cap = k := by omega
      have hkn : k ≤ n := by omega
      go_wp2
      refine ZS 10 (fun w' => True) [] trivial (fun hHeld => ?_)
      refine with_tabW rep_tab rep_bits (fun HT_ HW_ => ?_)
      have HK4 : Aside0 (wr.drew.heap[g]? = some (.cells cu.toArray 3 (0, 0))) := ⟨HK3.out⟩
      have HB4 := Aside0.mk (below_drew1 HB3.out)
      clear HK3 HB3
      generalize wr.drew = w3 at HK4 HB4 hHeld ⊢
      refine Zp 0 38 ?_; refine Zp 1 39 ?_; refine Zp 2 40 ?_; refine Zp 3 41 ?_; refine Zp 4 42 ?_; refine Zp 5 43 ?_; refine Zp 6 44 ?_
      have hG0 := HG.out
      refine ZO 7 (some 45) (fun K hK => ?_)
      refine step_copy_splice rfl (.tmp 41) (.tmp 44) 26 26 rfl 3 Try.underlying26 (by kernel_rfl) (some ⟨g, k, none⟩) (some ⟨g, 0, none⟩) (n - k) (cap - k) k cap rfl rfl g k cu 3 HK4.out (List.replicate (Nat.min k (n - k)) (.int .i64 x)) (by simp) (fun _ => ⟨rfl, _, rfl, fun j y hj => ?_⟩) ?_ (by intro v hv; rw [List.eq_of_mem_replicate hv]; simp [Value.oneCell']) w.heap.size w HB4.out hG0 ?_
      · rw [List.getElem?_replicate] at hj
        split at hj
        · rename_i hj1
          injection hj with hj; subst hj
          have hj2 : j < k := by unfold Nat.min at hj1; omega
          rw [add_plain, blk_cell HK4.out j]
          have e := congrArg (fun l => l[j]?) HC3.out.2
          simp only [List.getElem?_take, hj2, if_true, List.getElem?_replicate] at e
          simpa using e
        · cases hj
      · have := HC3.out.1; simp; unfold Nat.min; omega
      · intro w4 hh hb4
        have HK5 := Aside0.mk hh.out
        have HB5 := Aside0.mk hb4
        clear hh hb4 HK4 HB4 hG0
        refine hK.out _ _ trivial (fun hHeld => ?_)
        clear hK K
        have hm : (List.replicate (Nat.min k (n - k)) (Value.int .i64 x)).length = Nat.min k (n - k) := by simp
        rw [hm]
        obtain ⟨m, hm2⟩ : ∃ m, Nat.min k (n - k) = m := ⟨_, rfl⟩
        rw [hm2] at HK5 ⊢
        have HM : Aside0 (1 ≤ m ∧ k + m ≤ n) := ⟨by subst hm2; unfold Nat.min; omega⟩
        clear hm hm2
        refine norm_ (a' := ?_) ?_ ?_
        rotate_left
        · show Act.put _ (some 45) _ = _
          simp only [Act.put, List.setIfInBounds_toArray, List.set_cons_zero, List.set_cons_succ]
          rfl
        have hw : wrap64 ((k : Int) + (m : Int)) = ((k + m : Nat) : Int) := by have := HM.out; unfold wrap64; omega
        refine Zp 8 46 ?_; refine Zp 9 8 ?_
        refine done_ (done_of HT_.out (by kernel_rfl)) ?_
        go_wp2
        go_roundw
        case measure => have := HM.out; simp [intOf]; try (first | omega | (unfold wrap64; omega))
        case rel => exact ⟨k + m, splice cu k (List.replicate m (.int .i64 x)), by first | rfl | (rw [hw]), ⟨by have := HM.out; omega⟩, HK5, ⟨(length_splice cu k _ (by have := HM.out; have := HC3.out.1; simp; omega)).trans HC3.out.1, splice_take (n := n) HC3.out.2 (by have := HM.out; have := HC3.out.1; omega)⟩, HB5⟩
    · obtain rfl : k = n := by have := HKn.out; omega
      go_wp2
      go_ret
      refine ⟨_, rfl, Kd.R_of_own (by rw [List.length_replicate]; exact ⟨by simp [encs], .inr ⟨g, cap, cu.toArray, rfl, HG.out, HK3.out, hlc, hcm, by simp [HC3.out.1], by have := HC3.out.2; simpa [encs] using this⟩⟩) (fun _ _ => trivial), HB3.out⟩
def slices_Repeat_int_int.f (l0 : List Int) (a1 : Int) : Option (List Int) := if l0.length = 1 ∧ 0 ≤ a1 ∧ a1 ≤ 1048576 then some (List.replicate a1.toNat (rd l0 0)) else none
theorem slices_Repeat_int_int.calls (A0 : Option Addr) (c0 : Nat) (l0 : List Int) (a1 : Int) (r : List Int) (w : World) (hr0 : Kd.C (Kd.int .i64) w A0 l0.length l0) (hc0 : l0.length ≤ c0) (h : slices_Repeat_int_int.f l0 a1 = some r) :
    Calls Try.prog 149 #[.slice A0 l0.length c0, .int .i64 a1] w fun e w' => ∃ v0_ : Value, e = .returned (v0_) ∧ Kd.R (Kd.int .i64) 3 w' w.heap.size (fun _ => True) v0_ r ∧ Below w.heap.size w w' := by
  unfold slices_Repeat_int_int.f at h
  split at h
  case isFalse => cases h
  case isTrue hl =>
  obtain rfl := Option.some.inj h
  obtain ⟨h1, h2, h3⟩ := hl
  obtain ⟨b, off, rfl, hb, hcell⟩ := my_cells hr0 (by omega)
  have hx := hcell 0 (by omega)
  rw [h1]
  obtain ⟨n, rfl⟩ := Int.eq_ofNat_of_zero_le h2
  rw [Int.toNat_natCast]
  by_cases h0 : n = 0
  · subst h0
    exact repeat_zero b off c0 w
  · exact repeat_some b off c0 n _ w (by omega) (by omega) hx
end Go.Proofs.Ytiimbndjggebdaa.Q
