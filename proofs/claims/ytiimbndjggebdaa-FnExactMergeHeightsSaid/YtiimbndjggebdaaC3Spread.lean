/- The reference's search in breadth: where it comes, and over which places. Conditions: none. -/
import Derived.Test.YtiimbndjggebdaaC3Lists
import Derived.Test.YtiimbndjggebdaaC3Q26
namespace Go.Proofs.Ytiimbndjggebdaa.Q
open Go.RowKit Go.Proofs.YtiimbndjggebdaaW.PrintWords Go.Proofs.YtiimbndjggebdaaW.PrintLast Go.Proofs.YtiimbndjggebdaaW.PrintMore
set_option linter.unusedVariables false
set_option linter.unusedSimpArgs false
def EvP {α : Type} (g : Nat → Option α) (P : α → Prop) : Prop := ∃ r, Ev g r ∧ P r
theorem EvP.now {α : Type} {P : α → Prop} (r : α) (h : P r) : EvP (fun _ => some r) P := ⟨r, Ev.now r, h⟩
theorem EvP.step {α : Type} {g f : Nat → Option α} {P : α → Prop} (h : ∀ k, g (k + 1) = f k) (k : EvP f P) : EvP g P := by
  obtain ⟨r, h1, h2⟩ := k
  exact ⟨r, Ev.step h h1, h2⟩
theorem EvP.congr {α : Type} {g f : Nat → Option α} {P : α → Prop} (h : ∀ k, g k = f k) (k : EvP f P) : EvP g P := by
  obtain ⟨r, h1, h2⟩ := k
  exact ⟨r, Ev.congr h h1, h2⟩
theorem EvP.bind {α β : Type} {g : Nat → Option α} {f : Nat → α → Option β} {a : α} {P : β → Prop} (h : Ev g a) (k : EvP (fun n => f n a) P) : EvP (fun n => (g n).bind (f n)) P := by
  obtain ⟨r, h1, h2⟩ := k
  exact ⟨r, Ev.bind h h1, h2⟩
inductive Reach (L : List (List Int)) : Int → Int → Prop
  | refl (a : Int) : Reach L a a
  | step {a b : Int} (c : Int) : Reach L a b → c ∈ rd_L1 L b → Reach L a c
theorem Reach.trans {L : List (List Int)} {a b c : Int} (h : Reach L a b) (k : Reach L b c) : Reach L a c := by
  induction k with
  | refl => exact h
  | step c _ hc ih => exact Reach.step c ih hc
structure Nbs (n : Nat) (L : List (List Int)) : Prop where
  len : L.length = n
  few : n ≤ 1048576
  rng : ∀ v : Int, 0 ≤ v → v < n → ∀ c ∈ rd_L1 L v, 0 ≤ c ∧ c < n
  row : ∀ v : Int, (rd_L1 L v).length ≤ 4611686018427387903
theorem nodup_bound : ∀ (n : Nat) (l : List Int), l.Nodup → (∀ c ∈ l, 0 ≤ c ∧ c < (n : Int)) → l.length ≤ n
  | 0, l, _, h => by
    cases l with
    | nil => simp
    | cons a l => have := h a List.mem_cons_self; omega
  | n + 1, l, hn, h => by
    have h1 := nodup_bound n (l.erase (n : Int)) (hn.erase _) (fun c hc => by
      have h2 := h c (List.mem_of_mem_erase hc)
      have h3 := (hn.mem_erase_iff).1 hc
      have h4 := h3.1
      omega)
    rw [List.length_erase] at h1
    split at h1 <;> omega
theorem rd_set {t : List Int} {u v : Int} {y : Int} (h0 : 0 ≤ u) (h1 : u < t.length) (h2 : 0 ≤ v) : rd (t.set u.toNat y) v = if v = u then y else rd t v := by
  unfold rd
  simp only [List.getD_eq_getElem?_getD]
  by_cases h : v = u
  · subst h
    rw [if_pos rfl, List.getElem?_set_self (by omega)]
    rfl
  · rw [if_neg h, List.getElem?_set_ne (by omega)]
theorem rd_append {q x : List Int} {j : Nat} (h : j < q.length) : rd (q ++ x) (j : Int) = rd q (j : Int) := by
  unfold rd
  simp only [List.getD_eq_getElem?_getD, Int.toNat_natCast]
  rw [List.getElem?_append_left h]
theorem rd_mem {q : List Int} {j : Nat} (h : j < q.length) : rd q (j : Int) ∈ q := by
  rw [rd_at h]; exact List.getElem_mem h
structure Bfs (n : Nat) (L : List (List Int)) (i : Int) (q t : List Int) : Prop where
  len : t.length = n
  qr : ∀ c ∈ q, 0 ≤ c ∧ c < (n : Int)
  nod : q.Nodup
  mem : ∀ v : Int, 0 ≤ v → v < n → (0 ≤ rd t v ↔ v ∈ q)
  rch : ∀ v ∈ q, Reach L i v
  start : i ∈ q
  zero : ∀ v : Int, 0 ≤ v → v < n → (rd t v = 0 ↔ v = i)
  par : ∀ v : Int, 0 ≤ v → v < n → 0 < rd t v → ∃ u, 0 ≤ u ∧ u < (n : Int) ∧ v ∈ rd_L1 L u ∧ 0 ≤ rd t u ∧ rd t v = rd t u + 1
  low : ∀ v : Int, 0 ≤ v → v < n → -1 ≤ rd t v ∧ rd t v < (q.length : Int)
structure Far (n : Nat) (L : List (List Int)) (i : Int) (t : List Int) : Prop where
  len : t.length = n
  mem : ∀ v : Int, 0 ≤ v → v < n → (0 ≤ rd t v ↔ Reach L i v)
  zero : ∀ v : Int, 0 ≤ v → v < n → (rd t v = 0 ↔ v = i)
  par : ∀ v : Int, 0 ≤ v → v < n → 0 < rd t v → ∃ u, 0 ≤ u ∧ u < (n : Int) ∧ v ∈ rd_L1 L u ∧ 0 ≤ rd t u ∧ rd t v = rd t u + 1
  low : ∀ v : Int, 0 ≤ v → v < n → -1 ≤ rd t v ∧ rd t v < (n : Int)
theorem Bfs.push {n : Nat} {L : List (List Int)} {i : Int} {q t : List Int} (B : Bfs n L i q t) {u c : Int} (hu : u ∈ q) (hc : c ∈ rd_L1 L u) (h0 : 0 ≤ c) (h1 : c < n) (hf : rd t c < 0) : Bfs n L i (q ++ [c]) (t.set c.toNat (rd t u + 1)) := by
  have hur := B.qr u hu
  have huv := (B.mem u hur.1 hur.2).2 hu
  have hcl : c < (t.length : Int) := by rw [B.len]; exact h1
  have hcq : c ∉ q := fun h => by have := (B.mem c h0 h1).2 h; omega
  have hne : u ≠ c := fun e => hcq (e ▸ hu)
  have hlu := B.low u hur.1 hur.2
  refine ⟨by simp [B.len], ?_, ?_, ?_, ?_, ?_, ?_, ?_, ?_⟩
  · intro d hd
    rcases List.mem_append.1 hd with h | h
    · exact B.qr d h
    · obtain rfl := List.mem_singleton.1 h; exact ⟨h0, h1⟩
  · rw [List.nodup_append]
    refine ⟨B.nod, by simp, ?_⟩
    intro a ha b hb e
    obtain rfl := List.mem_singleton.1 hb
    exact hcq (e ▸ ha)
  · intro v hv0 hv1
    rw [rd_set h0 hcl hv0, List.mem_append, List.mem_singleton]
    by_cases e : v = c
    · rw [if_pos e]; exact ⟨fun _ => .inr e, fun _ => by omega⟩
    · rw [if_neg e, B.mem v hv0 hv1]
      exact ⟨.inl, fun h => h.resolve_right e⟩
  · intro v hv
    rcases List.mem_append.1 hv with h | h
    · exact B.rch v h
    · obtain rfl := List.mem_singleton.1 h; exact Reach.step _ (B.rch u hu) hc
  · exact List.mem_append_left _ B.start
  · intro v hv0 hv1
    rw [rd_set h0 hcl hv0]
    by_cases e : v = c
    · rw [if_pos e]
      refine ⟨fun h => by omega, fun h => ?_⟩
      exact absurd B.start (by rw [← h, e]; exact hcq)
    · rw [if_neg e]; exact B.zero v hv0 hv1
  · intro v hv0 hv1
    rw [rd_set h0 hcl hv0]
    by_cases e : v = c
    · rw [if_pos e]
      intro _
      refine ⟨u, hur.1, hur.2, e ▸ hc, ?_, ?_⟩
      · rw [rd_set h0 hcl hur.1, if_neg hne]; exact huv
      · rw [rd_set h0 hcl hur.1, if_neg hne]
    · rw [if_neg e]
      intro hp
      obtain ⟨x, hx0, hx1, hx2, hx3, hx4⟩ := B.par v hv0 hv1 hp
      have hxc : x ≠ c := fun e2 => by rw [e2] at hx3; omega
      refine ⟨x, hx0, hx1, hx2, ?_, ?_⟩
      · rw [rd_set h0 hcl hx0, if_neg hxc]; exact hx3
      · rw [rd_set h0 hcl hx0, if_neg hxc]; exact hx4
  · intro v hv0 hv1
    rw [rd_set h0 hcl hv0, List.length_append]
    have := B.low v hv0 hv1
    simp only [List.length_singleton]
    by_cases e : v = c
    · rw [if_pos e]; omega
    · rw [if_neg e]; omega
theorem Bfs.done {n : Nat} {L : List (List Int)} {i : Int} {q t : List Int} (N : Nbs n L) (B : Bfs n L i q t) (h : ∀ v ∈ q, ∀ c ∈ rd_L1 L v, 0 ≤ rd t c) : Far n L i t := by
  have hl := nodup_bound n q B.nod B.qr
  refine ⟨B.len, ?_, B.zero, B.par, fun v h0 h1 => by have := B.low v h0 h1; omega⟩
  intro v h0 h1
  rw [B.mem v h0 h1]
  refine ⟨B.rch v, fun hr => ?_⟩
  have hi := B.qr i B.start
  clear h0 h1
  induction hr with
  | refl => exact B.start
  | step c hb hc ih =>
    have hcr := N.rng _ (B.qr _ ih).1 (B.qr _ ih).2 c hc
    exact (B.mem c hcr.1 hcr.2).1 (h _ ih c hc)
theorem Bfs.init {n : Nat} {L : List (List Int)} {i : Int} (h0 : 0 ≤ i) (h1 : i < n) : Bfs n L i [i] ((List.replicate n (-1)).set i.toNat 0) := by
  have hr : ∀ v : Int, 0 ≤ v → v < n → rd ((List.replicate n (-1)).set i.toNat 0) v = if v = i then 0 else -1 := by
    intro v hv0 hv1
    rw [rd_set h0 (by simpa using h1) hv0]
    congr 1
    have : v.toNat < n := by omega
    simp [rd, this]
  refine ⟨by simp, ?_, by simp, ?_, ?_, by simp, ?_, ?_, ?_⟩
  · intro c hc; obtain rfl := List.mem_singleton.1 hc; exact ⟨h0, h1⟩
  · intro v hv0 hv1
    rw [hr v hv0 hv1, List.mem_singleton]
    by_cases e : v = i
    · simp [e]
    · simp [e]
  · intro v hv; obtain rfl := List.mem_singleton.1 hv; exact Reach.refl _
  · intro v hv0 hv1
    rw [hr v hv0 hv1]
    by_cases e : v = i
    · simp [e]
    · simp [e]
  · intro v hv0 hv1
    rw [hr v hv0 hv1]
    by_cases e : v = i
    · simp [e]
    · simp [e]
  · intro v hv0 hv1
    rw [hr v hv0 hv1]
    by_cases e : v = i
    · simp [e]
    · simp [e]
theorem l2Spread_l1 {n : Nat} {L : List (List Int)} {i : Int} (N : Nbs n L) : ∀ (d j : Nat) (q t : List Int), n - j = d → j ≤ q.length → Bfs n L i q t → (∀ a, a < j → ∀ c ∈ rd_L1 L (rd q (a : Int)), 0 ≤ rd t c) → EvP (fun k => spec_l2Spread.l1 k L q (j : Int) t) (Far n L i) := by
  intro d
  have hfew := N.few
  induction d with
  | zero =>
    intro j q t hd hj B hdone
    have hl := nodup_bound n q B.nod B.qr
    refine EvP.step (fun k => by rw [spec_l2Spread.l1, if_neg (by omega)]) (EvP.now _ (B.done N ?_))
    intro v hv c hc
    obtain ⟨a, ha, rfl⟩ := List.getElem_of_mem hv
    exact hdone a (by omega) c (by rw [rd_at ha]; exact hc)
  | succ d ih =>
    intro j q t hd hj B hdone
    have hl := nodup_bound n q B.nod B.qr
    by_cases hq : j < q.length
    · have hqr := B.qr _ (rd_mem hq)
      refine EvP.step (fun k => by rw [spec_l2Spread.l1, if_pos (by omega), if_pos (by omega), if_pos hqr.1, if_pos (by rw [N.len]; exact hqr.2)]) ?_
      have hrow := N.row (rd q (j : Int))
      have inner : ∀ (e p : Nat) (q2 t2 : List Int), (rd_L1 L (rd q (j : Int))).length - p = e → p ≤ (rd_L1 L (rd q (j : Int))).length → (∀ a, a ≤ j → rd q2 (a : Int) = rd q (a : Int)) → j < q2.length → Bfs n L i q2 t2 → (∀ a, a < j → ∀ c ∈ rd_L1 L (rd q (a : Int)), 0 ≤ rd t2 c) → (∀ b, b < p → 0 ≤ rd t2 (rd (rd_L1 L (rd q (j : Int))) (b : Int))) → EvP (fun k => spec_l2Spread.l2 k L q2 (j : Int) (rd_L1 L (rd q (j : Int))) (p : Int) t2) (Far n L i) := by
        intro e
        induction e with
        | zero =>
          intro p q2 t2 he hp hsame hj2 B2 hd2 hrowd
          refine EvP.step (fun k => by rw [spec_l2Spread.l2, if_neg (by omega), wi (by omega)]) ?_
          refine ih (j + 1) q2 t2 (by omega) (by omega) B2 ?_
          intro a ha c hc
          rw [hsame a (by omega)] at hc
          by_cases haj : a = j
          · subst haj
            obtain ⟨b, hb, rfl⟩ := List.getElem_of_mem hc
            have := hrowd b (by omega)
            rwa [rd_at hb] at this
          · exact hd2 a (by omega) c hc
        | succ e ihe =>
          intro p q2 t2 he hp hsame hj2 B2 hd2 hrowd
          have hpl : p < (rd_L1 L (rd q (j : Int))).length := by omega
          have hcm := rd_mem hpl
          have hcr := N.rng _ hqr.1 hqr.2 _ hcm
          have hl2 := nodup_bound n q2 B2.nod B2.qr
          refine EvP.step (fun k => by rw [spec_l2Spread.l2, if_pos (by omega), if_pos (by omega), if_pos hcr.1, if_pos (by rw [B2.len]; exact hcr.2)]) ?_
          by_cases hneg : rd t2 (rd (rd_L1 L (rd q (j : Int))) (p : Int)) < 0
          · have hlow := B2.low _ hqr.1 hqr.2
            refine EvP.congr (fun k => by rw [if_pos hneg, if_pos (by omega), if_pos (by omega), hsame j (Nat.le_refl _), if_pos hqr.1, if_pos (by rw [B2.len]; exact hqr.2), if_pos (by omega), wi (by omega), wr (by omega) (by omega)]) ?_
            have hjm : rd q (j : Int) ∈ q2 := by rw [← hsame j (Nat.le_refl _)]; exact rd_mem hj2
            have B3 := B2.push hjm hcm hcr.1 hcr.2 hneg
            have hset : ∀ v : Int, 0 ≤ v → 0 ≤ rd t2 v → 0 ≤ rd (t2.set (rd (rd_L1 L (rd q (j : Int))) (p : Int)).toNat (rd t2 (rd q (j : Int)) + 1)) v := by
              intro v hv0 hv
              rw [rd_set hcr.1 (by rw [B2.len]; exact hcr.2) hv0]
              split
              · have := (B2.mem _ hqr.1 hqr.2).2 hjm
                omega
              · exact hv
            refine ihe (p + 1) _ _ (by omega) (by omega) ?_ (by simp; omega) B3 ?_ ?_
            · intro a ha
              rw [rd_append (by omega)]
              exact hsame a ha
            · intro a ha c hc
              have hqa := B.qr _ (rd_mem (show a < q.length by omega))
              exact hset c (N.rng _ hqa.1 hqa.2 _ hc).1 (hd2 a ha c hc)
            · intro b hb
              have hbl : b < (rd_L1 L (rd q (j : Int))).length := by omega
              by_cases hbp : b = p
              · subst hbp
                rw [rd_set hcr.1 (by rw [B2.len]; exact hcr.2) hcr.1, if_pos rfl]
                have := (B2.mem _ hqr.1 hqr.2).2 hjm
                omega
              · exact hset _ (N.rng _ hqr.1 hqr.2 _ (rd_mem hbl)).1 (hrowd b (by omega))
          · refine EvP.congr (fun k => by rw [if_neg hneg, wi (by omega)]) ?_
            refine ihe (p + 1) q2 t2 (by omega) (by omega) hsame hj2 B2 hd2 ?_
            intro b hb
            by_cases hbp : b = p
            · subst hbp; omega
            · exact hrowd b (by omega)
      exact inner _ 0 q t rfl (by omega) (fun _ _ => rfl) hq B hdone (fun b hb => by omega)
    · refine EvP.step (fun k => by rw [spec_l2Spread.l1, if_neg (by omega)]) (EvP.now _ (B.done N ?_))
      intro v hv c hc
      obtain ⟨a, ha, rfl⟩ := List.getElem_of_mem hv
      exact hdone a (by omega) c (by rw [rd_at ha]; exact hc)
theorem l2Spread_at {n : Nat} {L : List (List Int)} {i : Int} (N : Nbs n L) (h0 : 0 ≤ i) (h1 : i < n) : EvP (fun k => spec_l2Spread.f k L i) (Far n L i) := by
  have hfew := N.few
  have hlen := N.len
  refine EvP.congr (fun k => by rw [spec_l2Spread.f, if_pos (by omega), if_pos (by omega), Int.toNat_natCast, hlen]) ?_
  obtain ⟨r, hr, hF⟩ := l2Spread_l1 N n 0 [i] ((List.replicate n (-1)).set i.toNat 0) (by omega) (by simp) (Bfs.init h0 h1) (fun a ha => by omega)
  refine ⟨r, ?_, hF⟩
  have := Ev.iter n (fun k j => spec_l2Spread.l0 k L i (j : Int) (List.replicate j (-1) ++ List.replicate (n - j) 0)) (fun _ => r) (by
    intro j hj h
    refine Ev.step (fun k => by rw [spec_l2Spread.l0, if_pos (by simp; omega), if_pos (by omega), wi (by omega), Int.toNat_natCast]) ?_
    have e : (List.replicate j (-1 : Int) ++ List.replicate (n - j) 0).set j (-1) = List.replicate (j + 1) (-1) ++ List.replicate (n - (j + 1)) 0 := by
      rw [List.set_append_right _ _ (by simp), List.length_replicate, Nat.sub_self, show n - j = (n - (j + 1)) + 1 by omega, List.replicate_succ, List.set_cons_zero, List.replicate_succ', List.append_assoc]
      rfl
    rw [e]
    exact h) (by
    refine Ev.step (fun k => by rw [spec_l2Spread.l0, if_neg (by simp), if_pos h0, if_pos (by simpa using h1)]) ?_
    simpa using hr) 0 (by omega)
  simpa using this
end Go.Proofs.Ytiimbndjggebdaa.Q
