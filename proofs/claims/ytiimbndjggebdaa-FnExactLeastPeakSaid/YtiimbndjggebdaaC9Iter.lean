/- The distinct numbers of a list in ascending order, as Go's slices and its iterators tell them. Conditions: none. -/
import Derived.RangeFuncBox
import Derived.RangeFuncLeaves
import Derived.Shelf.Abstract
import Derived.WalkKit
import Derived.OwnWalkIn
import Derived.TacticsInMore
import Derived.LoopNIn
import Derived.LoopIn
import Derived.Maps.AppendAt
import Derived.Lib.RowBridge
import Derived.Test.YtiimbndjggebdaaC9FcmpCompareint
import Derived.Test.YtiimbndjggebdaaC9Fimplbetween
import Derived.Test.YtiimbndjggebdaaC9Q0
namespace Go.Proofs.Ytiimbndjggebdaa.Q
open Go.RowKit Go.Shelf Go.Proofs.YtiimbndjggebdaaW.PrintWords Go.Proofs.YtiimbndjggebdaaW.PrintLast Go.Proofs.YtiimbndjggebdaaW.PrintMore
attribute [local go_sem] Oper.semAt_some
set_option linter.unusedVariables false
set_option linter.unusedSimpArgs false
def upto {α : Type} (f : Nat → α) (k : Nat) : List α := (List.range k).map f
theorem upto_succ {α : Type} (f : Nat → α) (k : Nat) : upto f (k + 1) = upto f k ++ [f k] := by simp [upto, List.range_succ]
theorem upto_length {α : Type} (f : Nat → α) (k : Nat) : (upto f k).length = k := by simp [upto]
theorem upto_take (zs : List Int) {k : Nat} (hk : k ≤ zs.length) : upto (fun j => zs[j]?.getD 0) k = zs.take k := by
  apply List.ext_getElem
  · simp [upto, hk]
  · intro i h1 h2
    have : i < zs.length := by simp [upto] at h1; omega
    simp [upto, this]
theorem upto_all (zs : List Int) : upto (fun j => zs[j]?.getD 0) zs.length = zs := by rw [upto_take zs (Nat.le_refl _)]; simp
set_option maxRecDepth 100000 in
set_option maxHeartbeats 2000000 in
theorem values1_in (F : Fence) (n : Nat) (h7 : F.fn 144) (hro : F.round = none) (hn : 1 ≤ n) (l Bs n₀ b off len cap : Nat) (zs : List Int) (hreach : len * 8 ≤ 140737488351232) (hb : b < n₀) (J Jx : List Int → World → Prop)
    (hY : ∀ pre x W, J pre W → pre.length < len → YieldAt F (n - 1) Try.prog l #[.int .i64 x] W fun e W' =>
      (e = .returned (.bool true) ∧ J (pre ++ [x]) W' ∧ Below n₀ W W') ∨ (e = .returned (.bool false) ∧ Jx (pre ++ [x]) W'))
    (W : World) (hBs : W.cell? ⟨Bs, 0, none⟩ = some (.slice (some ⟨b, off, none⟩) len cap)) (hc : ∀ j, j < len → W.cell? ⟨b, off + j, none⟩ = some (.int .i64 (zs[j]?.getD 0))) (h0 : J [] W) :
    CallsIn F n Try.prog 144 #[.func (.yield l) #[] #[], .pointer (some ⟨Bs, 0, none⟩)] W fun e W' => (∃ v, e = .returned v) ∧
      ((∃ ys, ys = upto (fun j => zs[j]?.getD 0) len ∧ J ys W') ∨ (∃ pre, (∃ k, k ≤ len ∧ pre = upto (fun j => zs[j]?.getD 0) k) ∧ Jx pre W')) := by
  refine callsIn_of_wp Try.func144 rfl h7 ?_ hro
  simp only [Try.ntmps144, List.size_toArray, List.length_cons, List.length_nil, Nat.reduceAdd, Nat.reduceSub, Array.replicate_succ, Array.replicate_zero, List.push_toArray, List.append_toArray, List.nil_append, List.cons_append]
  gi_wp2
  gi_loopw [7] (fun i wr => ∃ k : Nat, k ≤ len ∧ i = .int .i64 k ∧ J (upto (fun j => zs[j]?.getD 0) k) wr ∧ Below n₀ W wr)
    (fun i _ => len - (intOf i).toNat)
  case atStart => exact ⟨0, Nat.zero_le _, rfl, h0, Below.refl _ _⟩
  case round =>
    obtain ⟨k, hk, rfl, hJs, hnx⟩ := hrel
    have hcx : k < len → wr.cell? ⟨b, off + k, none⟩ = some (.int .i64 (zs[k]?.getD 0)) := fun h => (hnx.cell (p := ⟨b, off + k, none⟩) hb).trans (hc k h)
    by_cases hlt : k < len
    · obtain ⟨fn, tmps, assign, body, hy, hR⟩ := hY _ (zs[k]?.getD 0) wr hJs (by rw [upto_length]; exact hlt)
      have hcx' := hcx hlt
      gi_wp2
      refine hR.mono ?_
      rintro e W3 (⟨rfl, hJ3, hk3⟩ | ⟨rfl, hJx3⟩)
      · gi_wp2
        go_roundw
        case rel => exact ⟨k + 1, by omega, by simp, by rw [upto_succ]; exact hJ3, hnx.trans hk3⟩
        case measure => simp [intOf]; omega
      · gi_wp2
        refine bodyPost_ret (results_none rfl _ _ _) rfl ?_
        exact ⟨⟨_, rfl⟩, .inr ⟨_, ⟨k + 1, by omega, (upto_succ _ _).symm⟩, hJx3⟩⟩
    · obtain rfl : k = len := by omega
      gi_wp2
      go_end0
      exact ⟨⟨_, rfl⟩, .inl ⟨_, rfl, hJs⟩⟩
def Ints (n₀ : Nat) (W : World) (sv : Value) (zs : List Int) : Prop :=
  (zs = [] ∧ ∃ a c, sv = .slice a 0 c) ∨ ∃ b off cap, sv = .slice (some ⟨b, off, none⟩) zs.length cap ∧ b < n₀ ∧ ∀ j, j < zs.length → W.cell? ⟨b, off + j, none⟩ = some (.int .i64 (zs[j]?.getD 0))
theorem Ints.below {n₀ : Nat} {A B : World} (h : Below n₀ A B) {sv : Value} {zs : List Int} : Ints n₀ A sv zs → Ints n₀ B sv zs
  | .inl e => .inl e
  | .inr ⟨b, off, cap, e, hb, hc⟩ => .inr ⟨b, off, cap, e, hb, fun j hj => (h.cell (p := ⟨b, off + j, none⟩) hb).trans (hc j hj)⟩
set_option maxRecDepth 100000 in
set_option maxHeartbeats 1000000 in
theorem values1_nil_in (F : Fence) (n : Nat) (h7 : F.fn 144) (hro : F.round = none) (l Bs : Nat) (sa : Option Addr) (sc : Nat) (J : List Int → World → Prop) (W : World) (hBs : W.cell? ⟨Bs, 0, none⟩ = some (.slice sa 0 sc)) (h0 : J [] W) :
    CallsIn F n Try.prog 144 #[.func (.yield l) #[] #[], .pointer (some ⟨Bs, 0, none⟩)] W fun e W' => (∃ v, e = .returned v) ∧ J [] W' := by
  refine callsIn_of_wp Try.func144 rfl h7 ?_ hro
  simp only [Try.ntmps144, List.size_toArray, List.length_cons, List.length_nil, Nat.reduceAdd, Nat.reduceSub, Array.replicate_succ, Array.replicate_zero, List.push_toArray, List.append_toArray, List.nil_append, List.cons_append]
  gi_wp2
  gi_loopw [7] (fun i wr => i = .int .i64 0 ∧ J [] wr) (fun _ _ => 0)
  case atStart => exact ⟨rfl, h0⟩
  case round =>
    obtain ⟨rfl, hJs⟩ := hrel
    gi_wp2
    go_end0
    exact ⟨⟨_, rfl⟩, hJs⟩
theorem values_stops (F : Fence) (n : Nat) (h7 : F.fn 144) (hro : F.round = none) (hn : 1 ≤ n) (Bs n₀ : Nat) (sv : Value) (zs : List Int) (hreach : zs.length * 8 ≤ 140737488351232) (w : World) (hBs : Bs < w.heap.size) (hn₀ : n₀ ≤ w.heap.size)
    (hc : w.cell? ⟨Bs, 0, none⟩ = some sv) (hI : Ints n₀ w sv zs) :
    SeqStopsK F n Try.prog 144 #[.pointer (some ⟨Bs, 0, none⟩)] (fun x : Int => #[Value.int .i64 x]) (Below n₀) (fun ys => ys = zs) (fun pre => pre <+: zs) zs.length w := fun l J Jx W hW _ _ hY h0 => by
  have hc' := (hW.cell (p := ⟨Bs, 0, none⟩) hBs).trans hc
  rcases hI.below (hW.mono hn₀) with ⟨rfl, sa, sc, rfl⟩ | ⟨b, off, cap, rfl, hb, hcs⟩
  · exact (values1_nil_in F n h7 hro l Bs sa sc J W hc' h0).mono fun e W' ⟨he, hj⟩ => ⟨he, .inl ⟨_, rfl, hj⟩⟩
  · refine (values1_in F n h7 hro hn l Bs n₀ b off zs.length cap zs hreach hb J Jx hY W hc' hcs h0).mono ?_
    rintro e W' ⟨he, ⟨ys, rfl, hj⟩ | ⟨pre, ⟨k, hk, rfl⟩, hj⟩⟩
    · exact ⟨he, .inl ⟨_, upto_all zs, hj⟩⟩
    · exact ⟨he, .inr ⟨_, by rw [upto_take zs hk]; exact List.take_prefix _ _, hj⟩⟩
set_option maxRecDepth 100000 in
set_option maxHeartbeats 2000000 in
theorem appendSeq_in (F : Fence) (n : Nat) (h3 : F.fn 159) (h5 : F.fn 144) (hro : F.round = none) (hn : 3 ≤ n) (Bs : Nat) (sv : Value) (zs : List Int) (hlen : zs.length ≤ maxLen) (hbytes : zs.length * 8 ≤ 140737488351232) (w : World) (hBs : Bs < w.heap.size) (hc0 : w.cell? ⟨Bs, 0, none⟩ = some sv) (hI : Ints w.heap.size w sv zs) :
    CallsIn F n Try.prog 159 #[.slice none 0 0, .func (.func 144) #[] #[.pointer (some ⟨Bs, 0, none⟩)]] w fun e W' => ∃ v, e = .returned v ∧ W'.ownsRow w.heap.size 3 1 v zs.length (zs.map (Value.int .i64)) ∧ (v = .slice none 0 0 ↔ zs = []) ∧ Below w.heap.size w W' := by
  have h1 : 1 ≤ n := by omega
  obtain ⟨i0, hi, hz0, hz1, hz2⟩ := info_parts info3
  refine callsIn_of_wp_marks Try.func159 rfl h3 ?_ hro
  simp only [Try.ntmps159, List.size_toArray, List.length_cons, List.length_nil, Nat.reduceAdd, Nat.reduceSub, Array.replicate_succ, Array.replicate_zero, List.push_toArray, List.append_toArray, List.nil_append, List.cons_append]
  gi_wp2
  have bO := Boxed.new w 26 (.slice none 0 0)
  have hB0 : Below w.heap.size w (w.alloc (.cells #[.slice none 0 0] 26)) := (Below.refl _ w).alloc (Nat.le_refl _) _
  refine wpIn_rangeFunc_ownG hro h1 (gf := 144) (lb := #[.pointer (some ⟨Bs, 0, none⟩)]) rfl h5 (enters_of Try.func144 (by kernel_rfl) rfl)
    (values_stops F (n - 1) h5 hro (by omega) Bs w.heap.size sv zs hbytes _ (by simp; omega) (by simp) ((hB0.cell (p := ⟨Bs, 0, none⟩) hBs).trans hc0) (hI.below hB0)) belowK_t (belowK_b (by simp)) (Below.refl _ _) (fun _ => rfl)
    (fun pre W => (∃ v, Boxed W w.heap.size 26 v ∧ W.ownsRow w.heap.size 3 1 v pre.length (pre.map (Value.int .i64)) ∧ (v = .slice none 0 0 ↔ pre = [])) ∧ Below w.heap.size w W)
    (fun _ _ _ => False)
    (OwnFrom.and (Own.from (holdsRow_own w.heap.size w.heap.size 26 3 1 (fun pre => pre.length) (fun pre => pre.map (Value.int .i64)) (fun pre v => v = .slice none 0 0 ↔ pre = [])) _) (ownFrom_below (Nat.le_refl _) (by simp)))
    (fun _ _ _ _ _ hs _ _ => hs)
    ⟨⟨_, bO, World.ownsRow_nil _ _ _ _, by simp⟩, hB0⟩
    (fun x => { tmps := #[.slice none 0 0, .func (.func 144) #[] #[.pointer (some ⟨Bs, 0, none⟩)], .pointer (some ⟨w.heap.size, 0, none⟩), undef, .slice none 0 0, .int .i64 x, .func (.func 144) #[] #[.pointer (some ⟨Bs, 0, none⟩)], .int .i64 x, undef, undef, undef, undef, undef], defers := [] }) ?assign ?body ?done ?stop
  case assign =>
    intro l x W K hK
    gi_wp2
    exact hK
  case body =>
    rintro l pre x W ⟨⟨v, hv, hrow, hnil⟩, hB⟩ hlt
    have hc := hv.cell
    gi_wp2_with (gi_at_builtin; refine wpListIn_append_own _ rfl _ _ 26 rfl w.heap.size 3 i0 (.int .i64 0) 1 8 Try.underlying26 hi hz0 hz1 hz2 rfl (by decide) _ _ _ rfl (hrow.alloc _) ⟨W.heap.size, 0, none⟩ 1 1 [.int .i64 x] rfl rfl (cell_one_new _ _ _) (by simp [Value.oneCell']) (by omega) (by omega) (by have := hB.size; simp; omega) ?_; intro v' w1 hown' hgrow _; obtain ⟨g', cap', rfl⟩ := ownsRow_succ hown'; obtain ⟨hv1, hv2, hr2, hk2, hb2⟩ := hv.appended (by decide) hrow hB.size (Nat.le_refl _) hown' hgrow; have hc1 := hv1.cell; have hf1 := hv1.frozen)
    exact ⟨hk2.from _, hb2, ⟨_, hv2, by simpa using hr2, by simp⟩, hB.trans hb2⟩
  case done =>
    rintro D ys W hD rfl ⟨⟨v, hv, hrow, hnil⟩, hB⟩ hK
    have hc := hv.cell
    gi_wp2
    refine ⟨by simp, .inl ⟨_, _, rfl, run_takeDeferred hK, ?_⟩⟩
    exact ⟨_, results_tmp rfl _ _ _, v, rfl, ownsRow_putObj hrow _ hK rfl, hnil, hB.trans (belowK_b (w := w) (Nat.le_refl _) W D _ _ (by simp at hD; omega) hK rfl rfl)⟩
  case stop =>
    rintro D c pre W _ _ h _
    exact h.elim
theorem appendSeq_calls (Bs : Nat) (sv : Value) (zs : List Int) (hbytes : zs.length * 8 ≤ 140737488351232) (w : World) (hBs : Bs < w.heap.size) (hc0 : w.cell? ⟨Bs, 0, none⟩ = some sv) (hI : Ints w.heap.size w sv zs) :
    Calls Try.prog 159 #[.slice none 0 0, .func (.func 144) #[] #[.pointer (some ⟨Bs, 0, none⟩)]] w fun e W' => ∃ v, e = .returned v ∧ W'.ownsRow w.heap.size 3 1 v zs.length (zs.map (Value.int .i64)) ∧ (v = .slice none 0 0 ↔ zs = []) ∧ Below w.heap.size w W' :=
  (callsIn_wide (n := 3)).1 (appendSeq_in Fence.wide 3 trivial trivial rfl (Nat.le_refl _) Bs sv zs (by unfold maxLen; omega) hbytes w hBs hc0 hI)
theorem collect_calls (Bs : Nat) (sv : Value) (zs : List Int) (hbytes : zs.length * 8 ≤ 140737488351232) (w : World) (hBs : Bs < w.heap.size) (hc0 : w.cell? ⟨Bs, 0, none⟩ = some sv) (hI : Ints w.heap.size w sv zs) :
    Calls Try.prog 143 #[.func (.func 144) #[] #[.pointer (some ⟨Bs, 0, none⟩)]] w fun e W' => ∃ v, e = .returned v ∧ W'.ownsRow w.heap.size 3 1 v zs.length (zs.map (Value.int .i64)) ∧ Below w.heap.size w W' := by
  have K := Aside0.mk (appendSeq_calls Bs sv zs hbytes w hBs hc0 hI)
  clear hc0 hI hBs hbytes
  go_enter Try.func143, Try.ntmps143
  go_wp2_with (go_at_call 159; refine K.out.mono ?_; rintro e w' ⟨v, rfl, ho, _, hb⟩; have HO := Aside0.mk ho; have HB := Aside0.mk hb; clear ho hb)
  go_ret
  exact ⟨_, rfl, HO.out, HB.out⟩
theorem sorted_calls (Bs : Nat) (sv : Value) (zs : List Int) (hbytes : zs.length * 8 ≤ 140737488351232) (w : World) (hBs : Bs < w.heap.size) (hc0 : w.cell? ⟨Bs, 0, none⟩ = some sv) (hI : Ints w.heap.size w sv zs) :
    Calls Try.prog 106 #[.func (.func 144) #[] #[.pointer (some ⟨Bs, 0, none⟩)]] w fun e W' => ∃ v, e = .returned v ∧ Kd.R (Kd.int .i64) 3 W' w.heap.size (fun _ => True) v (zs.mergeSort fun x y => decide (x ≤ y)) ∧ Below w.heap.size w W' := by
  have K := Aside0.mk (collect_calls Bs sv zs hbytes w hBs hc0 hI)
  have KS : Aside0 (∀ (v : Value) (w1 : World), w1.ownsRow w.heap.size 3 1 v zs.length (zs.map (Value.int .i64)) → Below w.heap.size w w1 → Calls Try.prog 60 #[v] w1 fun e w' => e = .returned (.tuple #[]) ∧ Kd.R (Kd.int .i64) 3 w' w.heap.size (fun _ => True) v (zs.mergeSort fun x y => decide (x ≤ y)) ∧ Below w.heap.size w w') := ⟨fun v w1 ho hb => by
    refine (slices_Sort_int_int.calls (fun _ => True) v zs (zs.mergeSort fun x y => decide (x ≤ y)) w w1 hb (Kd.R_of_own ho (fun _ _ => trivial)) (by unfold slices_Sort_int_int.f; rw [if_pos (by omega)])).mono ?_
    rintro e w' ⟨rfl, h1, h2, _⟩
    exact ⟨rfl, Kd.R_mono h1 (fun _ _ => trivial), h2⟩⟩
  clear hc0 hI hBs hbytes
  go_enter Try.func106, Try.ntmps106
  go_wp2_with (first
    | (go_at_call 143; refine K.out.mono ?_; rintro e w1 ⟨v, rfl, ho, hb⟩; have K2 := Aside0.mk (KS.out v w1 ho hb); clear ho hb)
    | (go_at_call 60; refine K2.out.mono ?_; rintro e w2 ⟨rfl, ho, hb⟩; have HO := Aside0.mk ho; have HB := Aside0.mk hb; clear ho hb))
  go_ret
  exact ⟨_, rfl, HO.out, HB.out⟩
theorem values_calls (a : Option Addr) (len cap : Nat) (w : World) :
    Calls Try.prog 107 #[.slice a len cap] w fun e w' => e = .returned (.func (.func 144) #[] #[.pointer (some ⟨w.heap.size, 0, none⟩)]) ∧ w' = w.alloc (.cells #[.slice a len cap] 26) := by
  go_enter Try.func107, Try.ntmps107
  go_wp2
  go_ret
  exact ⟨rfl, rfl⟩
theorem compact_own (zs : List Int) (v : Value) (base : Nat) (w0 w : World) (ok : Nat → Prop) (ho : Kd.R (Kd.int .i64) 3 w base ok v zs) (hB : Below base w0 w) (hb : base ≤ w.heap.size) (hl : zs.length ≤ 9223372036854775807) :
    Calls Try.prog 110 #[v] w fun e w' => ∃ v', e = .returned v' ∧ Kd.R (Kd.int .i64) 3 w' base ok v' (Lib.compact zs) ∧ Below base w0 w' := by
  have hown := Kd.own_of_R ho
  have hok := ho.1
  rcases hown.2 with ⟨rfl, h0⟩ | ⟨g, cap, cur, rfl, hg, hbk, hn, hcap, hsz, htk⟩
  · obtain rfl : zs = [] := List.length_eq_zero_iff.1 h0
    refine (Try.slices_Compact_int_empty none 0 w).mono ?_
    rintro e w' ⟨rfl, rfl⟩
    exact ⟨_, rfl, by simpa [Lib.compact, Lib.compactUpTo] using ho, hB⟩
  · refine (Try.slices_Compact_int g 0 cap zs w (holds_of_blockI hbk (by simpa [encs] using htk)) hl hn).mono ?_
    rintro e w' ⟨rfl, q, rfl⟩
    have hc := Lib.compact_length_le zs
    have ho2 := ownsRow_sortedI (w := w) (base := base) (n := q) (os := #[]) (ss := zs) (ts := Lib.compact zs ++ List.replicate (zs.length - (Lib.compact zs).length) 0) (by simp; omega) hg hbk hn hcap hsz
    have hg' := grownBy_sortedI (w := w) (g := g) (n := q) (os := #[]) (Lib.compact zs ++ List.replicate (zs.length - (Lib.compact zs).length) 0).toArray
    have e0 : ∀ W : World, Sort.grow W #[] = W := fun W => by simp [Sort.grow]
    rw [e0] at ho2 hg'
    have hR : Kd.R (Kd.int .i64) 3 (Sort.putRow (Value.int .i64) (Sort.ahead w q) g 0 (Lib.compact zs ++ List.replicate (zs.length - (Lib.compact zs).length) 0).toArray) base ok (.slice (some ⟨g, 0, none⟩) zs.length cap) (Lib.compact zs ++ List.replicate (zs.length - (Lib.compact zs).length) 0) :=
      Kd.R_of_own (by have e1 : (Lib.compact zs ++ List.replicate (zs.length - (Lib.compact zs).length) 0).length = zs.length := by simp; omega
                      rw [e1]; exact ho2) (fun k hk => hok k hk)
    refine ⟨_, rfl, ?_, pw_below_grown hB (some g) hb hg' (fun k hk => by injection hk with hk; omega)⟩
    have h := Kd.R_take hR (m := (Lib.compact zs).length) (by simp)
    simpa using h
def slices_Compact_int_int.f (l0 : List Int) : Option (List Int) := if l0.length * 8 ≤ 140737488351232 then some (Lib.compact (l0.mergeSort fun x y => decide (x ≤ y))) else none
def CallsSD (P : Program) (fv fs fc : FuncId) (args : Array Value) (w : World) (R : Ending → World → Prop) : Prop :=
  Calls P fv args w fun e1 w1 => ∃ v1, e1 = .returned v1 ∧ Calls P fs #[v1] w1 fun e2 w2 => ∃ v2, e2 = .returned v2 ∧ Calls P fc #[v2] w2 R
theorem CallsSD.mono {P : Program} {fv fs fc : FuncId} {args : Array Value} {w : World} {R R' : Ending → World → Prop} (h : CallsSD P fv fs fc args w R) (hr : ∀ e w', R e w' → R' e w') : CallsSD P fv fs fc args w R' :=
  Calls.mono h fun e1 w1 ⟨v1, e, h1⟩ => ⟨v1, e, h1.mono fun e2 w2 ⟨v2, e', h2⟩ => ⟨v2, e', h2.mono hr⟩⟩
theorem slices_Compact_int_int.calls (A0 : Option Addr) (c0 : Nat) (l0 : List Int) (r : List Int) (w : World) (hr0 : Kd.C (Kd.int .i64) w A0 l0.length l0) (hc0 : l0.length ≤ c0) (h : slices_Compact_int_int.f l0 = some r) :
    CallsSD Try.prog 107 106 110 #[.slice A0 l0.length c0] w fun e w' => ∃ v0_ : Value, e = .returned (v0_) ∧ Kd.R (Kd.int .i64) 3 w' w.heap.size (fun _ => True) v0_ r ∧ Below w.heap.size w w' := by
  unfold slices_Compact_int_int.f at h
  split at h
  case isFalse => cases h
  case isTrue hl =>
  obtain rfl := Option.some.inj h
  refine (values_calls A0 l0.length c0 w).mono ?_
  rintro e w1 ⟨rfl, rfl⟩
  refine ⟨_, rfl, ?_⟩
  have hb1 : Below w.heap.size w (w.alloc (.cells #[.slice A0 l0.length c0] 26)) := (Below.refl _ w).alloc (Nat.le_refl _) _
  have hI : Ints (w.alloc (.cells #[.slice A0 l0.length c0] 26)).heap.size (w.alloc (.cells #[.slice A0 l0.length c0] 26)) (.slice A0 l0.length c0) l0 := by
    by_cases hp : 0 < l0.length
    · obtain ⟨b, off, rfl, hb, hcell⟩ := my_cells hr0 hp
      refine .inr ⟨b, off, c0, rfl, by simp; omega, fun j hj => ?_⟩
      have := (hb1.cell (p := ⟨b, off + j, none⟩) hb).trans (hcell j hj)
      simpa [List.getD_eq_getElem?_getD] using this
    · obtain rfl : l0 = [] := List.length_eq_zero_iff.1 (by omega)
      exact .inl ⟨rfl, A0, c0, rfl⟩
  refine (sorted_calls w.heap.size (.slice A0 l0.length c0) l0 hl _ (by simp) (Boxed.new w 26 _).cell hI).mono ?_
  rintro e w2 ⟨v, rfl, ho, hb2⟩
  refine ⟨_, rfl, ?_⟩
  have hb12 : Below w.heap.size w w2 := below_step hb1 hb2
  refine (compact_own _ v w.heap.size w w2 (fun _ => True) (Kd.R_lower ho (by simp)) hb12 hb12.size (by rw [List.length_mergeSort]; omega)).mono ?_
  rintro e w' ⟨v', rfl, h1, h2⟩
  exact ⟨v', rfl, h1, h2⟩
section
variable {P : Program} {ops : Array Oper} {rest : List Oper} {o1 o2 o3 : Oper} {a : Act} {Q : Exit → Act → World → Prop} {W : World}
theorem goesSD {fv fs fc : FuncId} {f1 f2 f3 : Func} {xs : Array Operand} {ts1 ts2 ts3 : Array TypeId} (h1 : P.funcs[fv]? = some f1) (h2 : P.funcs[fs]? = some f2) (h3 : P.funcs[fc]? = some f3) (d1 d2 d3 : Nat) (args : Array Value)
    (h : CallsSD P fv fs fc args W fun e w' => ∃ v, e = .returned v ∧ ∀ v1 v2, wpList P ops Q rest (((a.put (some d1) v1).put (some d2) v2).put (some d3) v) w')
    (hop1 : o1.op = .call { callee := .value (.func fv), args := xs, argTypes := ts1 } := by with_reducible rfl) (hop2 : o2.op = .call { callee := .value (.func fs), args := #[.tmp d1], argTypes := ts2 } := by with_reducible rfl) (hop3 : o3.op = .call { callee := .value (.func fc), args := #[.tmp d2], argTypes := ts3 } := by with_reducible rfl)
    (hd1 : o1.dst = some d1 := by rfl) (hd2 : o2.dst = some d2 := by rfl) (hd3 : o3.dst = some d3 := by rfl) (hg1 : o1.guard = none := by rfl) (hg2 : o2.guard = none := by rfl) (hg3 : o3.guard = none := by rfl) (hn1 : (f1.name == "runtime.NumGoroutine") = false := by kernel_rfl) (hn2 : (f2.name == "runtime.NumGoroutine") = false := by kernel_rfl) (hn3 : (f3.name == "runtime.NumGoroutine") = false := by kernel_rfl)
    (hb1 : f1.body.isSome = true := by rfl) (hb2 : f2.body.isSome = true := by rfl) (hb3 : f3.body.isSome = true := by rfl) (hs1 : d1 < a.tmps.size := by first | (simp; done) | exact Nat.le_of_ble_eq_true rfl) (hs2 : d2 < a.tmps.size := by first | (simp; done) | exact Nat.le_of_ble_eq_true rfl)
    (hargs : xs.map a.eval = args := by (try simp only [List.map_toArray, List.map_cons, List.map_nil]); first | done | rfl) : wpList P ops Q (o1 :: o2 :: o3 :: rest) a W := by
  refine goesL_ (some d1) hd1 hg1 h1 hn1 hb1 args hop1 hargs ?_
  refine Calls.mono h ?_
  rintro e1 w1 ⟨v1, rfl, h⟩
  refine ⟨v1, rfl, ?_⟩
  refine goesL_ (some d2) hd2 hg2 h2 hn2 hb2 #[v1] hop2 (by simp [Act.eval, Act.put, hs1]) ?_
  refine h.mono ?_
  rintro e2 w2 ⟨v2, rfl, h⟩
  refine ⟨v2, rfl, ?_⟩
  refine goesL_ (some d3) hd3 hg3 h3 hn3 hb3 #[v2] hop3 (by simp [Act.eval, Act.put, hs2]) ?_
  refine h.mono ?_
  rintro e3 w3 ⟨v, rfl, h⟩
  exact ⟨v, rfl, h v1 v2⟩
end
end Go.Proofs.Ytiimbndjggebdaa.Q
