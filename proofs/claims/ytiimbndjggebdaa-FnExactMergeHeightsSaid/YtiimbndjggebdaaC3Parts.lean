/- How many parts: the program's count and the reference's are one. Conditions: none. -/
import Derived.Test.YtiimbndjggebdaaC3Spread
import Derived.Test.YtiimbndjggebdaaC3Q27
import Derived.Test.YtiimbndjggebdaaC3Q35
namespace Go.Proofs.Ytiimbndjggebdaa.Q
open Go.RowKit Go.Proofs.YtiimbndjggebdaaW.PrintWords Go.Proofs.YtiimbndjggebdaaW.PrintLast Go.Proofs.YtiimbndjggebdaaW.PrintMore
set_option linter.unusedVariables false
set_option linter.unusedSimpArgs false
theorem rdOf_set {t : List Bool} {u v : Int} {y : Bool} (h0 : 0 ≤ u) (h1 : u < t.length) (h2 : 0 ≤ v) : rdOf false (t.set u.toNat y) v = if v = u then y else rdOf false t v := by
  unfold rdOf
  simp only [List.getD_eq_getElem?_getD]
  by_cases h : v = u
  · subst h
    rw [if_pos rfl, List.getElem?_set_self (by omega)]
    rfl
  · rw [if_neg h, List.getElem?_set_ne (by omega)]
def SeenBy (L : List (List Int)) (i v : Int) : Prop := ∃ j, 0 ≤ j ∧ j < i ∧ Reach L j v
theorem SeenBy.next {L : List (List Int)} {i : Int} (h0 : 0 ≤ i) (v : Int) : SeenBy L (i + 1) v ↔ SeenBy L i v ∨ Reach L i v := by
  constructor
  · rintro ⟨j, a, b, c⟩
    by_cases e : j = i
    · exact .inr (e ▸ c)
    · exact .inl ⟨j, a, by omega, c⟩
  · rintro (⟨j, a, b, c⟩ | h)
    · exact ⟨j, a, by omega, c⟩
    · exact ⟨i, h0, by omega, h⟩
theorem SeenBy.old {L : List (List Int)} {i : Int} (h0 : 0 ≤ i) (hs : SeenBy L i i) (v : Int) : SeenBy L (i + 1) v ↔ SeenBy L i v := by
  rw [SeenBy.next h0]
  refine ⟨fun h => h.elim id (fun hr => ?_), .inl⟩
  obtain ⟨j, a, b, c⟩ := hs
  exact ⟨j, a, b, c.trans hr⟩
open Classical in
noncomputable def cnt (L : List (List Int)) : Nat → Nat
  | 0 => 0
  | i + 1 => cnt L i + if SeenBy L i i then 0 else 1
theorem cnt_le (L : List (List Int)) : ∀ i, cnt L i ≤ i
  | 0 => Nat.le_refl _
  | i + 1 => by
    have := cnt_le L i
    unfold cnt
    split <;> omega
theorem cnt_seen {L : List (List Int)} {i : Nat} (h : SeenBy L i i) : cnt L (i + 1) = cnt L i := by
  rw [cnt, if_pos h, Nat.add_zero]
theorem cnt_new {L : List (List Int)} {i : Nat} (h : ¬ SeenBy L i i) : cnt L (i + 1) = cnt L i + 1 := by
  rw [cnt, if_neg h]
structure Seen (n : Nat) (L : List (List Int)) (P : Int → Prop) (x : List Bool) : Prop where
  len : x.length = n
  mem : ∀ v : Int, 0 ≤ v → v < n → (rdOf false x v = true ↔ P v)
theorem Seen.start (n : Nat) (L : List (List Int)) : Seen n L (SeenBy L 0) (List.replicate n false) := by
  refine ⟨by simp, fun v h0 h1 => ?_⟩
  have : v.toNat < n := by omega
  have e : rdOf false (List.replicate n false) v = false := by simp [rdOf, this]
  rw [e]
  refine ⟨fun h => by simp at h, fun ⟨j, a, b, _⟩ => by omega⟩
theorem Seen.congr {n : Nat} {L : List (List Int)} {P Q : Int → Prop} {x : List Bool} (h : Seen n L P x) (e : ∀ v : Int, 0 ≤ v → v < n → (P v ↔ Q v)) : Seen n L Q x :=
  ⟨h.len, fun v h0 h1 => (h.mem v h0 h1).trans (e v h0 h1)⟩
theorem Seen.add {n : Nat} {L : List (List Int)} {P : Int → Prop} {x : List Bool} (h : Seen n L P x) {c : Int} (h0 : 0 ≤ c) (h1 : c < n) : Seen n L (fun v => P v ∨ v = c) (x.set c.toNat true) := by
  refine ⟨by simp [h.len], fun v hv0 hv1 => ?_⟩
  rw [rdOf_set h0 (by rw [h.len]; exact h1) hv0]
  by_cases e : v = c
  · rw [if_pos e]; exact ⟨fun _ => .inr e, fun _ => rfl⟩
  · rw [if_neg e, h.mem v hv0 hv1]
    exact ⟨.inl, fun h => h.resolve_right e⟩
theorem l2Parts_at (st : List (List Int)) (sp : List S52) {n : Nat} {L : List (List Int)} (hL : Ev (fun k => spec_l2Lists.f k st sp) L) (N : Nbs n L) : EvP (fun k => spec_l2Parts.f k st sp) (fun r => r.length = cnt L n) := by
  have hfew := N.few
  have hlen := N.len
  refine EvP.bind hL ?_
  refine EvP.congr (fun k => by rw [if_pos (by omega), if_pos (by omega), Int.toNat_natCast, hlen]) ?_
  have main : ∀ (d i : Nat) (x3 : List (List Int)) (x15 : List Bool), n - i = d → i ≤ n → x3.length = cnt L i → Seen n L (SeenBy L i) x15 → EvP (fun k => spec_l2Parts.l0 k x3 (i : Int) L x15) (fun r => r.length = cnt L n) := by
    intro d
    induction d with
    | zero =>
      intro i x3 x15 hd hi h3 hS
      obtain rfl : i = n := by omega
      exact EvP.step (fun k => by rw [spec_l2Parts.l0, if_neg (by omega)]) (EvP.now _ h3)
    | succ d ih =>
      intro i x3 x15 hd hi h3 hS
      have hcl := cnt_le L i
      refine EvP.step (fun k => by rw [spec_l2Parts.l0, if_pos (by omega), if_pos (by omega), if_pos (by rw [hS.len]; omega)]) ?_
      by_cases hs : rdOf false x15 (i : Int) = true
      · have hsb := (hS.mem i (by omega) (by omega)).1 hs
        refine EvP.congr (fun k => by rw [if_pos hs, wi (by omega)]) ?_
        exact ih (i + 1) x3 x15 (by omega) (by omega) (by rw [cnt_seen hsb, h3]) (hS.congr (fun v _ _ => by
          rw [show ((i + 1 : Nat) : Int) = (i : Int) + 1 by omega]
          exact (SeenBy.old (by omega) hsb v).symm))
      · have hsb : ¬ SeenBy L i i := fun h => hs ((hS.mem i (by omega) (by omega)).2 h)
        refine EvP.congr (fun k => by rw [if_neg hs]) ?_
        obtain ⟨t, ht, hF⟩ := l2Spread_at N (show (0 : Int) ≤ (i : Int) by omega) (show (i : Int) < n by omega)
        refine EvP.bind ht ?_
        have inner : ∀ (e p : Nat) (x7 : List Int) (y : List Bool), n - p = e → p ≤ n → x7.length ≤ p → Seen n L (fun v => SeenBy L i v ∨ (v < p ∧ Reach L i v)) y → EvP (fun k => spec_l2Parts.l1 k x3 (i : Int) x7 (p : Int) L y t) (fun r => r.length = cnt L n) := by
          intro e
          induction e with
          | zero =>
            intro p x7 y he hp h7 hY
            obtain rfl : p = n := by omega
            refine EvP.step (fun k => by rw [spec_l2Parts.l1, if_neg (by rw [hF.len]; omega), if_pos (by omega), wi (by omega)]) ?_
            refine ih (i + 1) _ y (by omega) (by omega) (by rw [cnt_new hsb, List.length_append, h3]; rfl) (hY.congr (fun v h0 h1 => ?_))
            rw [show ((i + 1 : Nat) : Int) = (i : Int) + 1 by omega, SeenBy.next (by omega)]
            exact ⟨fun h => h.imp id (·.2), fun h => h.imp id (fun h => ⟨h1, h⟩)⟩
          | succ e ihe =>
            intro p x7 y he hp h7 hY
            refine EvP.step (fun k => by rw [spec_l2Parts.l1, if_pos (by rw [hF.len]; omega), if_pos (by omega)]) ?_
            by_cases hr : rd t (p : Int) ≥ 0
            · refine EvP.congr (fun k => by rw [if_pos hr, if_pos (by omega), if_pos (by rw [hY.len]; omega), wi (by omega)]) ?_
              have hre := (hF.mem p (by omega) (by omega)).1 hr
              refine ihe (p + 1) _ _ (by omega) (by omega) (by simp; omega) ((hY.add (by omega) (by omega)).congr (fun v h0 h1 => ?_))
              constructor
              · rintro ((h | ⟨h, h2⟩) | h)
                · exact .inl h
                · exact .inr ⟨by omega, h2⟩
                · exact .inr ⟨by omega, h ▸ hre⟩
              · rintro (h | ⟨h, h2⟩)
                · exact .inl (.inl h)
                · by_cases e : v = (p : Int)
                  · exact .inr e
                  · exact .inl (.inr ⟨by omega, h2⟩)
            · refine EvP.congr (fun k => by rw [if_neg hr, wi (by omega)]) ?_
              have hre : ¬ Reach L i p := fun h => hr ((hF.mem p (by omega) (by omega)).2 h)
              refine ihe (p + 1) x7 y (by omega) (by omega) (by omega) (hY.congr (fun v h0 h1 => ?_))
              constructor
              · rintro (h | ⟨h, h2⟩)
                · exact .inl h
                · exact .inr ⟨by omega, h2⟩
              · rintro (h | ⟨h, h2⟩)
                · exact .inl h
                · by_cases e : v = (p : Int)
                  · exact absurd (e ▸ h2) hre
                  · exact .inr ⟨by omega, h2⟩
        exact inner n 0 [] x15 (by omega) (by omega) (by simp) (hS.congr (fun v h0 h1 => ⟨.inl, fun h => h.elim id (fun h => by have := h.1; omega)⟩))
  exact main n 0 [] _ (by omega) (by omega) rfl (Seen.start n L)
structure Work (n : Nat) (L : List (List Int)) (i : Int) (S0 : Int → Prop) (q : List Int) (x : List Bool) : Prop where
  seen : Seen n L (fun v => S0 v ∨ v ∈ q) x
  qr : ∀ c ∈ q, 0 ≤ c ∧ c < (n : Int)
  nod : q.Nodup
  rch : ∀ v ∈ q, Reach L i v
  start : i ∈ q
theorem Work.push {n : Nat} {L : List (List Int)} {i : Int} {S0 : Int → Prop} {q : List Int} {x : List Bool} (B : Work n L i S0 q x) {u c : Int} (hu : u ∈ q) (hc : c ∈ rd_L1 L u) (h0 : 0 ≤ c) (h1 : c < n) (hf : ¬ rdOf false x c = true) : Work n L i S0 (q ++ [c]) (x.set c.toNat true) := by
  have hcq : ¬ (S0 c ∨ c ∈ q) := fun h => hf ((B.seen.mem c h0 h1).2 h)
  refine ⟨(B.seen.add h0 h1).congr (fun v hv0 hv1 => ?_), ?_, ?_, ?_, List.mem_append_left _ B.start⟩
  · rw [List.mem_append, List.mem_singleton, or_assoc]
  · intro d hd
    rcases List.mem_append.1 hd with h | h
    · exact B.qr d h
    · obtain rfl := List.mem_singleton.1 h; exact ⟨h0, h1⟩
  · rw [List.nodup_append]
    refine ⟨B.nod, by simp, ?_⟩
    intro a ha b hb e
    obtain rfl := List.mem_singleton.1 hb
    exact hcq (.inr (e ▸ ha))
  · intro v hv
    rcases List.mem_append.1 hv with h | h
    · exact B.rch v h
    · obtain rfl := List.mem_singleton.1 h; exact Reach.step _ (B.rch u hu) hc
theorem Work.done {n : Nat} {L : List (List Int)} {i : Int} {q : List Int} {x : List Bool} (N : Nbs n L) (h0 : 0 ≤ i) (B : Work n L i (SeenBy L i) q x) (h : ∀ v ∈ q, ∀ c ∈ rd_L1 L v, rdOf false x c = true) : Seen n L (SeenBy L (i + 1)) x := by
  refine B.seen.congr (fun v hv0 hv1 => ?_)
  rw [SeenBy.next h0]
  constructor
  · rintro (hs | hq)
    · exact .inl hs
    · exact .inr (B.rch v hq)
  · rintro (hs | hr)
    · exact .inl hs
    · clear hv0 hv1
      induction hr with
      | refl => exact .inr B.start
      | step c hb hc ih =>
        rcases ih with ⟨j, a, b, hj⟩ | hq
        · exact .inl ⟨j, a, b, Reach.step _ hj hc⟩
        · have hcr := N.rng _ (B.qr _ hq).1 (B.qr _ hq).2 c hc
          exact (B.seen.mem c hcr.1 hcr.2).1 (h _ hq c hc)
theorem parts_at {n : Nat} {L : List (List Int)} (N : Nbs n L) : EvP (fun k => impl_parts.f k L (-1)) (fun r => r.length = cnt L n) := by
  have hfew := N.few
  have hlen := N.len
  refine EvP.congr (fun k => by rw [impl_parts.f, Option.bind_some, if_pos (by omega), if_pos (by omega), Option.bind_some, if_neg (by omega), Int.toNat_natCast, hlen]) ?_
  refine EvP.step (fun k => by rw [impl_parts.j0, hlen]) ?_
  have main : ∀ (d i : Nat) (x5 : List (List Int)) (x6 : List Bool), n - i = d → i ≤ n → x5.length = cnt L i → Seen n L (SeenBy L i) x6 → EvP (fun k => impl_parts.l0 k L x5 x6 (n : Int) (i : Int)) (fun r => r.length = cnt L n) := by
    intro d
    induction d with
    | zero =>
      intro i x5 x6 hd hi h5 hS
      obtain rfl : i = n := by omega
      exact EvP.step (fun k => by rw [impl_parts.l0, if_neg (by omega)]) (EvP.now _ h5)
    | succ d ih =>
      intro i x5 x6 hd hi h5 hS
      have hcl := cnt_le L i
      refine EvP.step (fun k => by rw [impl_parts.l0, if_pos (by omega), if_pos (by omega), if_pos (by rw [hS.len]; omega)]) ?_
      by_cases hs : rdOf false x6 (i : Int) = true
      · have hsb := (hS.mem i (by omega) (by omega)).1 hs
        refine EvP.congr (fun k => by rw [if_pos hs, wi (by omega)]) ?_
        exact ih (i + 1) x5 x6 (by omega) (by omega) (by rw [cnt_seen hsb, h5]) (hS.congr (fun v _ _ => by
          rw [show ((i + 1 : Nat) : Int) = (i : Int) + 1 by omega]
          exact (SeenBy.old (by omega) hsb v).symm))
      · have hsb : ¬ SeenBy L i i := fun h => hs ((hS.mem i (by omega) (by omega)).2 h)
        refine EvP.congr (fun k => by rw [if_neg hs]) ?_
        have work : ∀ (d2 j : Nat) (q : List Int) (y : List Bool), n - j = d2 → j ≤ q.length → Work n L i (SeenBy L i) q y → (∀ a, a < j → ∀ c ∈ rd_L1 L (rd q (a : Int)), rdOf false y c = true) → EvP (fun k => impl_parts.l1 k L x5 y q (j : Int) (n : Int) (i : Int)) (fun r => r.length = cnt L n) := by
          intro d2
          have fin : ∀ (j : Nat) (q : List Int) (y : List Bool), j = q.length → Work n L i (SeenBy L i) q y → (∀ a, a < j → ∀ c ∈ rd_L1 L (rd q (a : Int)), rdOf false y c = true) → EvP (fun k => impl_parts.l1 k L x5 y q (j : Int) (n : Int) (i : Int)) (fun r => r.length = cnt L n) := by
            intro j q y hj B hdone
            have hl := nodup_bound n q B.nod B.qr
            refine EvP.step (fun k => by rw [impl_parts.l1, if_neg (by omega), slices_Sort_int_int.f, if_pos (by omega), Option.bind_some, if_pos (by omega), wi (by omega)]) ?_
            refine ih (i + 1) _ y (by omega) (by omega) (by rw [cnt_new hsb, List.length_append, h5]; rfl) ?_
            rw [show ((i + 1 : Nat) : Int) = (i : Int) + 1 by omega]
            refine B.done N (by omega) ?_
            intro v hv c hc
            obtain ⟨a, ha, rfl⟩ := List.getElem_of_mem hv
            exact hdone a (by omega) c (by rw [rd_at ha]; exact hc)
          induction d2 with
          | zero =>
            intro j q y hd2 hj B hdone
            have hl := nodup_bound n q B.nod B.qr
            exact fin j q y (by omega) B hdone
          | succ d2 ih2 =>
            intro j q y hd2 hj B hdone
            have hl := nodup_bound n q B.nod B.qr
            by_cases hq : j < q.length
            · have hqr := B.qr _ (rd_mem hq)
              refine EvP.step (fun k => by rw [impl_parts.l1, if_pos (by omega), if_pos (by omega), if_pos hqr.1, if_pos (by rw [N.len]; exact hqr.2)]) ?_
              have hrow := N.row (rd q (j : Int))
              have inner : ∀ (e p : Nat) (q2 : List Int) (y2 : List Bool), (rd_L1 L (rd q (j : Int))).length - p = e → p ≤ (rd_L1 L (rd q (j : Int))).length → (∀ a, a ≤ j → rd q2 (a : Int) = rd q (a : Int)) → j < q2.length → Work n L i (SeenBy L i) q2 y2 → (∀ a, a < j → ∀ c ∈ rd_L1 L (rd q (a : Int)), rdOf false y2 c = true) → (∀ b, b < p → rdOf false y2 (rd (rd_L1 L (rd q (j : Int))) (b : Int)) = true) → EvP (fun k => impl_parts.l2 k L x5 y2 q2 (j : Int) (n : Int) (i : Int) (rd_L1 L (rd q (j : Int))) ((rd_L1 L (rd q (j : Int))).length : Int) (p : Int)) (fun r => r.length = cnt L n) := by
                intro e
                induction e with
                | zero =>
                  intro p q2 y2 he hp hsame hj2 B2 hd2' hrowd
                  refine EvP.step (fun k => by rw [impl_parts.l2, if_neg (by omega), wi (by omega)]) ?_
                  refine ih2 (j + 1) q2 y2 (by omega) (by omega) B2 ?_
                  intro a ha c hc
                  rw [hsame a (by omega)] at hc
                  by_cases haj : a = j
                  · subst haj
                    obtain ⟨b, hb, rfl⟩ := List.getElem_of_mem hc
                    have := hrowd b (by omega)
                    rwa [rd_at hb] at this
                  · exact hd2' a (by omega) c hc
                | succ e ihe =>
                  intro p q2 y2 he hp hsame hj2 B2 hd2' hrowd
                  have hpl : p < (rd_L1 L (rd q (j : Int))).length := by omega
                  have hcm := rd_mem hpl
                  have hcr := N.rng _ hqr.1 hqr.2 _ hcm
                  have hl2 := nodup_bound n q2 B2.nod B2.qr
                  refine EvP.step (fun k => by rw [impl_parts.l2, if_pos (by omega), if_pos (by omega), if_pos (by omega), if_pos hcr.1, if_pos (by rw [B2.seen.len]; exact hcr.2)]) ?_
                  by_cases hm : rdOf false y2 (rd (rd_L1 L (rd q (j : Int))) (p : Int)) = true
                  · refine EvP.congr (fun k => by rw [if_pos hm, wi (by omega)]) ?_
                    refine ihe (p + 1) q2 y2 (by omega) (by omega) hsame hj2 B2 hd2' ?_
                    intro b hb
                    by_cases hbp : b = p
                    · subst hbp; exact hm
                    · exact hrowd b (by omega)
                  · refine EvP.congr (fun k => by rw [if_neg hm, if_pos (by omega), wi (by omega)]) ?_
                    have hjm : rd q (j : Int) ∈ q2 := by rw [← hsame j (Nat.le_refl _)]; exact rd_mem hj2
                    have B3 := B2.push hjm hcm hcr.1 hcr.2 hm
                    have hset : ∀ v : Int, 0 ≤ v → rdOf false y2 v = true → rdOf false (y2.set (rd (rd_L1 L (rd q (j : Int))) (p : Int)).toNat true) v = true := by
                      intro v hv0 hv
                      rw [rdOf_set hcr.1 (by rw [B2.seen.len]; exact hcr.2) hv0]
                      split
                      · rfl
                      · exact hv
                    refine ihe (p + 1) _ _ (by omega) (by omega) ?_ (by simp; omega) B3 ?_ ?_
                    · intro a ha
                      rw [rd_append (by omega)]
                      exact hsame a ha
                    · intro a ha c hc
                      have hqa := B.qr _ (rd_mem (show a < q.length by omega))
                      exact hset c (N.rng _ hqa.1 hqa.2 _ hc).1 (hd2' a ha c hc)
                    · intro b hb
                      have hbl : b < (rd_L1 L (rd q (j : Int))).length := by omega
                      by_cases hbp : b = p
                      · subst hbp
                        rw [rdOf_set hcr.1 (by rw [B2.seen.len]; exact hcr.2) hcr.1, if_pos rfl]
                      · exact hset _ (N.rng _ hqr.1 hqr.2 _ (rd_mem hbl)).1 (hrowd b (by omega))
              exact inner _ 0 q y rfl (by omega) (fun _ _ => rfl) hq B hdone (fun b hb => by omega)
            · exact fin j q y (by omega) B hdone
        rw [Int.toNat_natCast]
        refine work n 0 [(i : Int)] (x6.set i true) (by omega) (by simp) ?_ (fun a ha => by omega)
        have hadd := hS.add (show (0 : Int) ≤ (i : Int) by omega) (show (i : Int) < n by omega)
        rw [Int.toNat_natCast] at hadd
        refine ⟨hadd.congr (fun v _ _ => by rw [List.mem_singleton]), ?_, by simp, ?_, by simp⟩
        · intro c hc; obtain rfl := List.mem_singleton.1 hc; omega
        · intro v hv; obtain rfl := List.mem_singleton.1 hv; exact Reach.refl _
  exact main n 0 [] _ (by omega) (by omega) rfl (Seen.start n L)
end Go.Proofs.Ytiimbndjggebdaa.Q
