/- A space over a rising list of its places: the program's and the reference's are one. Conditions: none. -/
import Derived.Test.YtiimbndjggebdaaC3Parts
import Derived.Test.YtiimbndjggebdaaC3Q28
import Derived.Test.YtiimbndjggebdaaC3Q33
namespace Go.Proofs.Ytiimbndjggebdaa.Q
open Go.RowKit Go.Proofs.YtiimbndjggebdaaW.PrintWords Go.Proofs.YtiimbndjggebdaaW.PrintLast Go.Proofs.YtiimbndjggebdaaW.PrintMore
set_option linter.unusedVariables false
set_option linter.unusedSimpArgs false
def pos (l : List Int) (c : Int) : Int := if c ∈ l then (l.idxOf c : Int) else -1
structure Rising (n : Nat) (l : List Int) : Prop where
  srt : l.Pairwise (fun a b => a < b)
  rng : ∀ c ∈ l, 0 ≤ c ∧ c < (n : Int)
theorem Rising.nodup {n : Nat} {l : List Int} (h : Rising n l) : l.Nodup := h.srt.imp (fun h => by omega)
theorem Rising.few {n : Nat} {l : List Int} (h : Rising n l) : l.length ≤ n := nodup_bound n l h.nodup h.rng
theorem Rising.lt {n : Nat} {l : List Int} (h : Rising n l) {i j : Nat} (hij : i < j) (hj : j < l.length) : l[i]'(by omega) < l[j] := (List.pairwise_iff_getElem.1 h.srt) i j (by omega) hj hij
theorem pos_none {l : List Int} {c : Int} (h : c ∉ l) : pos l c = -1 := if_neg h
theorem pos_at {n : Nat} {l : List Int} (h : Rising n l) {j : Nat} (hj : j < l.length) : pos l l[j] = j := by
  unfold pos
  rw [if_pos (List.getElem_mem hj)]
  have h1 : l.idxOf l[j] < l.length := List.idxOf_lt_length_of_mem (List.getElem_mem hj)
  have h2 : l[l.idxOf l[j]] = l[j] := List.getElem_idxOf h1
  by_cases e : l.idxOf l[j] = j
  · omega
  · by_cases e2 : l.idxOf l[j] < j
    · have := h.lt e2 hj; omega
    · have := h.lt (show j < l.idxOf l[j] by omega) h1; omega
theorem pos_some {n : Nat} {l : List Int} (h : Rising n l) {c : Int} (hp : 0 ≤ pos l c) : ∃ j, ∃ hj : j < l.length, l[j] = c ∧ pos l c = j := by
  by_cases hc : c ∈ l
  · obtain ⟨j, hj, rfl⟩ := List.getElem_of_mem hc
    exact ⟨j, hj, rfl, pos_at h hj⟩
  · rw [pos_none hc] at hp; omega
def ind (sp : List S52) (l : List Int) : List S52 := sp.filterMap (fun s => if pos l s.f0 ≥ 0 ∧ pos l s.f1 ≥ 0 then some ⟨pos l s.f0, pos l s.f1⟩ else none)
theorem ind_take (sp : List S52) (l : List Int) (i : Nat) (h : i < sp.length) : ind (sp.take (i + 1)) l = ind (sp.take i) l ++ (if pos l sp[i].f0 ≥ 0 ∧ pos l sp[i].f1 ≥ 0 then [⟨pos l sp[i].f0, pos l sp[i].f1⟩] else []) := by
  unfold ind
  rw [List.take_succ_eq_append_getElem h, List.filterMap_append]
  congr 1
  by_cases e : pos l sp[i].f0 ≥ 0 ∧ pos l sp[i].f1 ≥ 0
  · rw [if_pos e]; simp [e]
  · rw [if_neg e]; simp only [List.filterMap_cons, if_neg e, List.filterMap_nil]
theorem ind_len (sp : List S52) (l : List Int) : (ind sp l).length ≤ sp.length := List.length_filterMap_le _ _
theorem pos_lt {n : Nat} {l : List Int} (h : Rising n l) {c d : Int} (hc : 0 ≤ pos l c) (hd : 0 ≤ pos l d) : (pos l c < pos l d ↔ c < d) ∧ (pos l c = pos l d ↔ c = d) := by
  obtain ⟨i, hi, rfl, e1⟩ := pos_some h hc
  obtain ⟨j, hj, rfl, e2⟩ := pos_some h hd
  rw [e1, e2]
  rcases Nat.lt_trichotomy i j with hl | rfl | hl
  · have := h.lt hl hj; constructor <;> omega
  · constructor <;> omega
  · have := h.lt hl hi; constructor <;> omega
theorem ind_ok {n : Nat} {sp : List S52} {l : List Int} (ok : StepsOK n sp) (h : Rising n l) : StepsOK l.length (ind sp l) := by
  refine ⟨?_, ?_⟩
  · intro s hs
    obtain ⟨t, ht, e⟩ := List.mem_filterMap.1 hs
    split at e
    · rename_i hp
      obtain rfl := Option.some.inj e
      obtain ⟨j, hj, _, e2⟩ := pos_some h hp.2
      have := (pos_lt h hp.1 hp.2).1.2 (ok.rng t ht).2.1
      exact ⟨hp.1, this, by simp only []; omega⟩
    · cases e
  · unfold ind
    rw [List.pairwise_filterMap]
    refine ok.srt.imp ?_
    intro a b hab x hx y hy
    split at hx <;> split at hy
    · rename_i ha hb
      obtain rfl := Option.some.inj hx
      obtain rfl := Option.some.inj hy
      rw [lex52_iff] at hab ⊢
      have h1 := pos_lt h ha.1 hb.1
      have h2 := pos_lt h ha.2 hb.2
      rcases hab with hl | ⟨he, hl⟩
      · exact .inl (h1.1.2 hl)
      · exact .inr ⟨h1.2.2 he, h2.1.2 hl⟩
    all_goals first | (cases hy; done) | (cases hx; done)
theorem nbs_of {n : Nat} {sp : List S52} (hn : n ≤ 1048576) (hm : sp.length ≤ 1048576) (ok : StepsOK n sp) : Nbs n (lists n sp) := by
  have hr : ∀ v : Int, 0 ≤ v → v < n → rd_L1 (lists n sp) v = adj sp v := by
    intro v h0 h1
    rw [lists, rd_L1_tab _ h0 h1, show ((v.toNat : Nat) : Int) = v by omega]
  refine ⟨by simp [lists], hn, ?_, ?_⟩
  · intro v h0 h1 c hc
    rw [hr v h0 h1] at hc
    unfold adj befores behinds at hc
    rcases List.mem_append.1 hc with h | h
    · obtain ⟨s, hs, rfl⟩ := List.mem_map.1 h
      have := ok.rng s (List.mem_filter.1 hs).1
      omega
    · obtain ⟨s, hs, rfl⟩ := List.mem_map.1 h
      have := ok.rng s (List.mem_filter.1 hs).1
      omega
  · intro v
    by_cases h : 0 ≤ v ∧ v < n
    · rw [hr v h.1 h.2]
      have := befores_len sp v
      have := behinds_len sp v
      unfold adj
      rw [List.length_append]
      omega
    · by_cases h2 : v.toNat < n
      · have e : rd_L1 (lists n sp) v = rd_L1 (lists n sp) ((v.toNat : Nat) : Int) := by unfold rd_L1; rw [Int.toNat_natCast]
        rw [e, hr _ (by omega) (by omega)]
        have := befores_len sp ((v.toNat : Nat) : Int)
        have := behinds_len sp ((v.toNat : Nat) : Int)
        unfold adj
        rw [List.length_append]
        omega
      · have e : rd_L1 (lists n sp) v = [] := by simp [rd_L1, lists, h2]
        rw [e]; simp
theorem less_at (a b : Int) : cmp_Less_int.f a b = some (decide (a < b)) := by
  simp [cmp_Less_int.f, cmp_isNaN_int.f]
theorem search_at {n : Nat} {l : List Int} (h : Rising n l) (hn : n ≤ 1048576) (a : Int) : ∃ i : Int, Ev (fun k => slices_BinarySearch_int_int.f k l a) (i, decide (0 ≤ pos l a)) ∧ (0 ≤ pos l a → i = pos l a) := by
  have hlen := h.few
  have hfin : ∀ (d lo hi : Nat), hi - lo = d → lo ≤ hi → hi ≤ l.length → (∀ j (hj : j < l.length), j < lo → l[j] < a) → (∀ j (hj : j < l.length), hi ≤ j → a ≤ l[j]) → ∃ i : Int, Ev (fun k => slices_BinarySearch_int_int.l0 k l a (l.length : Int) (lo : Int) (hi : Int)) (i, decide (0 ≤ pos l a)) ∧ (0 ≤ pos l a → i = pos l a) := by
    intro d
    induction d using Nat.strongRecOn with
    | ind d ih =>
      intro lo hi hd hle hhi hlo hup
      by_cases hlt : lo < hi
      · have hmid : wrap64 ((IntKind.u64.wrap (wrap64 ((lo : Int) + (hi : Int)))) / 2) = (((lo + hi) / 2 : Nat) : Int) := by
          rw [wr (x := (lo : Int) + hi) (by omega) (by omega)]
          have e : IntKind.u64.wrap ((lo : Int) + hi) = (lo : Int) + hi := by
            simp only [IntKind.wrap]
            first | omega | (simp [IntKind.signed, IntKind.bits]; omega)
          rw [e, wr (by omega) (by omega)]
          omega
        have hm : (lo + hi) / 2 < l.length := by omega
        by_cases hc : l[(lo + hi) / 2] < a
        · obtain ⟨i, h1, h2⟩ := ih (hi - ((lo + hi) / 2 + 1)) (by omega) ((lo + hi) / 2 + 1) hi rfl (by omega) hhi (by
            intro j hj hjl
            by_cases e : j = (lo + hi) / 2
            · subst e; exact hc
            · have := h.lt (show j < (lo + hi) / 2 by omega) hm; omega) hup
          refine ⟨i, Ev.step (fun k => by rw [slices_BinarySearch_int_int.l0, if_pos (by omega), hmid, if_pos (by omega), if_pos (by omega), rd_at hm, less_at, Option.bind_some, if_pos (decide_eq_true hc), wi (by omega)]) h1, h2⟩
        · obtain ⟨i, h1, h2⟩ := ih ((lo + hi) / 2 - lo) (by omega) lo ((lo + hi) / 2) rfl (by omega) (by omega) hlo (by
            intro j hj hjl
            by_cases e : j = (lo + hi) / 2
            · subst e; omega
            · have := h.lt (show (lo + hi) / 2 < j by omega) hj; omega)
          refine ⟨i, Ev.step (fun k => by rw [slices_BinarySearch_int_int.l0, if_pos (by omega), hmid, if_pos (by omega), if_pos (by omega), rd_at hm, less_at, Option.bind_some, if_neg (by simpa using hc)]) h1, h2⟩
      · obtain rfl : lo = hi := by omega
        by_cases hl : lo < l.length
        · by_cases he : l[lo] = a
          · have hp : pos l a = lo := by rw [← he]; exact pos_at h hl
            refine ⟨lo, Ev.step (fun k => by rw [slices_BinarySearch_int_int.l0, if_neg (by omega), if_pos (by omega), if_pos (by omega), if_pos (by omega), rd_at hl, if_pos he]) ?_, fun _ => hp.symm⟩
            rw [show decide (0 ≤ pos l a) = true from decide_eq_true (by omega)]
            exact Ev.now _
          · have hp : ¬ 0 ≤ pos l a := by
              intro hp
              obtain ⟨j, hj, hja, _⟩ := pos_some h hp
              have h3 := hup lo hl (Nat.le_refl _)
              by_cases e : j < lo
              · have := hlo j hj e; omega
              · by_cases e2 : j = lo
                · subst e2; exact he hja
                · have := h.lt (show lo < j by omega) hj; omega
            refine ⟨lo, Ev.step (fun k => by rw [slices_BinarySearch_int_int.l0, if_neg (by omega), if_pos (by omega), if_pos (by omega), if_pos (by omega), rd_at hl, if_neg he, slices_isNaN_int.f, Option.bind_some, if_neg (by simp)]) ?_, fun h => absurd h hp⟩
            rw [show decide (0 ≤ pos l a) = false from decide_eq_false hp]
            exact Ev.now _
        · have hp : ¬ 0 ≤ pos l a := by
            intro hp
            obtain ⟨j, hj, hja, _⟩ := pos_some h hp
            have := hlo j hj (by omega); omega
          refine ⟨lo, Ev.step (fun k => by rw [slices_BinarySearch_int_int.l0, if_neg (by omega), if_neg (by omega)]) ?_, fun h => absurd h hp⟩
          rw [show decide (0 ≤ pos l a) = false from decide_eq_false hp]
          exact Ev.now _
  exact hfin l.length 0 l.length (by omega) (by omega) (by omega) (fun j hj h => by omega) (fun j hj h => by omega)
theorem isRising_at {n : Nat} {l : List Int} (h : Rising n l) (hn : n ≤ 1048576) : Ev (fun k => impl_isRising.f k l (n : Int)) true := by
  have hlen := h.few
  exact Ev.iter l.length (fun k i => impl_isRising.l0 k l (n : Int) l (l.length : Int) (i : Int)) (fun _ => true) (by
    intro i hi hr
    have hc := h.rng _ (List.getElem_mem hi)
    refine Ev.step (fun k => by rw [impl_isRising.l0, if_pos (by omega), if_pos (by omega), if_pos (by omega), impl_between.f, rd_at hi, if_pos hc.1, wr (by omega) (by omega), Option.bind_some, if_pos (decide_eq_true (by omega)), wi (by omega)]) ?_
    by_cases h0 : i = 0
    · exact Ev.congr (fun k => by rw [if_neg (by omega)]) hr
    · have h1 := h.lt (show i - 1 < i by omega) hi
      refine Ev.congr (fun k => by rw [if_pos (by omega), wr (by omega) (by omega), if_pos (by omega), if_pos (by omega), show (i : Int) - 1 = ((i - 1 : Nat) : Int) by omega, rd_at (by omega), if_neg (by omega)]) hr) (by
    exact Ev.step (fun k => by rw [impl_isRising.l0, if_neg (by omega)]) (Ev.now _)) 0 (by omega)
theorem rd_map_take (st : List (List Int)) (l : List Int) (i : Nat) (h : i < l.length) : (l.take (i + 1)).map (rd_L1 st) = (l.take i).map (rd_L1 st) ++ [rd_L1 st l[i]] := by
  rw [List.take_succ_eq_append_getElem h, List.map_append]; rfl
theorem InducedSpace_at (st : List (List Int)) (sp : List S52) (l : List Int) (hv : okSpace st sp = true) (hr : ∀ x ∈ st, x.length ≤ 1048576) (h : Rising st.length l) : Ev (fun k => impl_InducedSpace.f k st sp l) (l.map (rd_L1 st), ind sp l, true) := by
  obtain ⟨hn, hm, ok⟩ := okSpace_steps hv
  have hlen := h.few
  have hI := isSpace_at st sp (fun x hx => by have := hr x hx; omega)
  rw [hv] at hI
  refine Ev.bind hI ?_
  refine Ev.congr (fun k => by rw [if_pos rfl]) ?_
  refine Ev.bind (isRising_at h (by omega)) ?_
  refine Ev.step (fun k => by rw [impl_InducedSpace.j0, if_neg (by simp)]) ?_
  have second := Ev.iter sp.length (fun k i => impl_InducedSpace.l1 k l sp (sp.length : Int) (i : Int) (l.map (rd_L1 st)) (ind (sp.take i) l)) (fun _ => (l.map (rd_L1 st), ind sp l, true)) (by
    intro i hi hx
    obtain ⟨p0, b0, e0⟩ := search_at h (by omega) sp[i].f0
    obtain ⟨p1, b1, e1⟩ := search_at h (by omega) sp[i].f1
    refine Ev.step (fun k => by rw [impl_InducedSpace.l1, if_pos (by omega), if_pos (by omega), if_pos (by omega), rd_T52_at hi]) ?_
    refine Ev.bind b0 ?_
    refine Ev.bind b1 ?_
    rw [ind_take _ _ _ hi] at hx
    have hl := ind_len (sp.take i) l
    rw [List.length_take] at hl
    by_cases c0 : 0 ≤ pos l sp[i].f0
    · by_cases c1 : 0 ≤ pos l sp[i].f1
      · rw [if_pos ⟨c0, c1⟩] at hx
        refine Ev.congr (fun k => by rw [if_pos (decide_eq_true c0), if_pos (decide_eq_true c1), if_pos (by omega), e0 c0, e1 c1, wi (by omega)]) hx
      · rw [if_neg (fun hh => c1 hh.2), List.append_nil] at hx
        refine Ev.congr (fun k => by rw [if_pos (decide_eq_true c0), if_neg (by simpa using c1), wi (by omega)]) hx
    · rw [if_neg (fun hh => c0 hh.1), List.append_nil] at hx
      refine Ev.congr (fun k => by rw [if_neg (by simpa using c0), wi (by omega)]) hx) (by
    refine Ev.step (fun k => by rw [impl_InducedSpace.l1, if_neg (by omega)]) ?_
    rw [List.take_length]
    exact Ev.now _) 0 (by omega)
  have first := Ev.iter l.length (fun k i => impl_InducedSpace.l0 k l l (l.length : Int) (i : Int) st sp ((l.take i).map (rd_L1 st))) (fun _ => (l.map (rd_L1 st), ind sp l, true)) (by
    intro i hi hx
    have hc := h.rng _ (List.getElem_mem hi)
    have hrow : (rd_L1 st l[i]).length ≤ 1048576 := by
      unfold rd_L1
      rw [List.getD_eq_getElem?_getD]
      cases hg : st[l[i].toNat]? with
      | none => simp
      | some x => exact hr x (List.mem_of_getElem? hg)
    rw [rd_map_take _ _ _ hi] at hx
    refine Ev.step (fun k => by rw [impl_InducedSpace.l0, if_pos (by omega), if_pos (by omega), if_pos (by omega), rd_at hi, if_pos hc.1, if_pos hc.2, slices_Clone_int_int.f, if_pos (by omega), Option.bind_some, if_pos (by simp; omega), wi (by omega)]) hx) (by
    refine Ev.step (fun k => by rw [impl_InducedSpace.l0, if_neg (by omega)]) ?_
    rw [List.take_length]
    simpa [ind] using second) 0 (by omega)
  simpa using first
theorem l2Induced_at (st : List (List Int)) (sp : List S52) (l : List Int) (hn : st.length ≤ 1048576) (hm : sp.length ≤ 1048576) (ok : StepsOK st.length sp) (hr : ∀ x ∈ st, x.length ≤ 1048576) (h : Rising st.length l) : Ev (fun k => spec_l2Induced.f k st sp l) (l.map (rd_L1 st), ind sp l) := by
  have hlen := h.few
  refine Ev.congr (fun k => by rw [spec_l2Induced.f, if_pos (by omega), if_pos (by omega), Int.toNat_natCast]) ?_
  have third : ∀ x18 : List Int, x18.length = st.length → (∀ c : Int, 0 ≤ c → c < st.length → rd x18 c = pos l c) → Ev (fun k => spec_l2Induced.l2 k 0 x18 st sp (l.map (rd_L1 st)) []) (l.map (rd_L1 st), ind sp l) := by
    intro x18 h18 hp
    have := Ev.iter sp.length (fun k i => spec_l2Induced.l2 k (i : Int) x18 st sp (l.map (rd_L1 st)) (ind (sp.take i) l)) (fun _ => (l.map (rd_L1 st), ind sp l)) (by
      intro i hi hx
      obtain ⟨a, b, c⟩ := ok.rng _ (List.getElem_mem hi)
      refine Ev.step (fun k => by rw [spec_l2Induced.l2, if_pos (by omega), if_pos (by omega), rd_T52_at hi, if_pos (by omega), if_pos (by omega), if_pos (by omega), if_pos (by omega), hp _ (by omega) (by omega), hp _ (by omega) (by omega)]) ?_
      rw [ind_take _ _ _ hi] at hx
      have hl := ind_len (sp.take i) l
      rw [List.length_take] at hl
      by_cases c0 : pos l sp[i].f0 ≥ 0
      · by_cases c1 : pos l sp[i].f1 ≥ 0
        · rw [if_pos ⟨c0, c1⟩] at hx
          refine Ev.congr (fun k => by rw [if_pos c0, if_pos c1, if_pos (by omega), wi (by omega)]) hx
        · rw [if_neg (fun hh => c1 hh.2), List.append_nil] at hx
          refine Ev.congr (fun k => by rw [if_pos c0, if_neg c1, wi (by omega)]) hx
      · rw [if_neg (fun hh => c0 hh.1), List.append_nil] at hx
        refine Ev.congr (fun k => by rw [if_neg c0, wi (by omega)]) hx) (by
      refine Ev.step (fun k => by rw [spec_l2Induced.l2, if_neg (by omega)]) ?_
      rw [List.take_length]
      exact Ev.now _) 0 (by omega)
    simpa [ind] using this
  have second : ∀ (d i : Nat) (x18 : List Int), l.length - i = d → i ≤ l.length → x18.length = st.length → (∀ c : Int, 0 ≤ c → c < st.length → rd x18 c = pos (l.take i) c) → Ev (fun k => spec_l2Induced.l1 k l (i : Int) x18 st sp ((l.take i).map (rd_L1 st)) []) (l.map (rd_L1 st), ind sp l) := by
    intro d
    induction d with
    | zero =>
      intro i x18 hd hi h18 hp
      obtain rfl : i = l.length := by omega
      refine Ev.step (fun k => by rw [spec_l2Induced.l1, if_neg (by omega)]) ?_
      rw [List.take_length] at hp ⊢
      exact third x18 h18 hp
    | succ d ih =>
      intro i x18 hd hi h18 hp
      have hil : i < l.length := by omega
      have hc := h.rng _ (List.getElem_mem hil)
      have hrow : (rd_L1 st l[i]).length ≤ 1048576 := by
        unfold rd_L1
        rw [List.getD_eq_getElem?_getD]
        cases hg : st[l[i].toNat]? with
        | none => simp
        | some x => exact hr x (List.mem_of_getElem? hg)
      have hx := ih (i + 1) (x18.set l[i].toNat (i : Int)) (by omega) (by omega) (by simp [h18]) (by
        intro c h0 h1
        rw [rd_set hc.1 (by rw [h18]; exact hc.2) h0]
        have hR : Rising st.length (l.take (i + 1)) := ⟨h.srt.sublist (List.take_sublist _ _), fun c hc => h.rng c (List.mem_of_mem_take hc)⟩
        have hR0 : Rising st.length (l.take i) := ⟨h.srt.sublist (List.take_sublist _ _), fun c hc => h.rng c (List.mem_of_mem_take hc)⟩
        by_cases e : c = l[i]
        · rw [if_pos e, e]
          have h2 := pos_at hR (j := i) (by simp; omega)
          rw [List.getElem_take] at h2
          exact h2.symm
        · rw [if_neg e, hp c h0 h1]
          by_cases hm : c ∈ l.take i
          · obtain ⟨j, hj, rfl⟩ := List.getElem_of_mem hm
            rw [pos_at hR0 hj]
            simp only [List.length_take] at hj
            have h2 := pos_at hR (j := j) (by simp; omega)
            simp only [List.getElem_take] at h2 ⊢
            exact h2.symm
          · rw [pos_none hm, pos_none]
            rw [List.take_succ_eq_append_getElem hil, List.mem_append, List.mem_singleton]
            exact fun hh => hh.elim hm e)
      rw [rd_map_take _ _ _ hil] at hx
      refine Ev.step (fun k => by rw [spec_l2Induced.l1, if_pos (by omega), if_pos (by omega), rd_at hil, if_pos hc.1, if_pos (by rw [h18]; exact hc.2), if_pos hc.2, spec_l1Own.f, Option.bind_some, if_pos (by simp; omega), Option.bind_some, if_pos (by simp; omega), wi (by omega), List.nil_append]) hx
  have first := Ev.iter st.length (fun k j => spec_l2Induced.l0 k l (j : Int) (List.replicate j (-1) ++ List.replicate (st.length - j) 0) st sp [] []) (fun _ => (l.map (rd_L1 st), ind sp l)) (by
    intro j hj hx
    refine Ev.step (fun k => by rw [spec_l2Induced.l0, if_pos (by simp; omega), if_pos (by omega), wi (by omega), Int.toNat_natCast]) ?_
    have e : (List.replicate j (-1 : Int) ++ List.replicate (st.length - j) 0).set j (-1) = List.replicate (j + 1) (-1) ++ List.replicate (st.length - (j + 1)) 0 := by
      rw [List.set_append_right _ _ (by simp), List.length_replicate, Nat.sub_self, show st.length - j = (st.length - (j + 1)) + 1 by omega, List.replicate_succ, List.set_cons_zero, List.replicate_succ', List.append_assoc]
      rfl
    rw [e]
    exact hx) (by
    refine Ev.step (fun k => by rw [spec_l2Induced.l0, if_neg (by simp)]) ?_
    have := second l.length 0 (List.replicate st.length (-1)) (by omega) (by omega) (by simp) (by
      intro c h0 h1
      have : c.toNat < st.length := by omega
      simp [rd, pos, this])
    simpa using this) 0 (by omega)
  simpa using first
end Go.Proofs.Ytiimbndjggebdaa.Q
