import Derived.Test.YtfdgbghlanbddaaDoorAvDraw
set_option linter.unusedVariables false
set_option linter.unusedSimpArgs false
namespace Go.Proofs.YtfdgbghlanbddaaDoor.Av
open Go.RowKit
def quietsFrom (ms : List Nat) : List Oper → Nat → List Oper
  | [], _ => []
  | o :: r, i => match ms.contains i with
    | true => quietsFrom ms r (i + 1)
    | false => o :: quietsFrom ms r (i + 1)
theorem mem_quietsFrom {ms : List Nat} {o : Oper} : ∀ {l : List Oper} {i : Nat}, o ∈ quietsFrom ms l i ↔ ∃ j, l[j]? = some o ∧ i + j ∉ ms
  | [], i => by simp [quietsFrom]
  | x :: r, i => by
    unfold quietsFrom
    cases hc : ms.contains i with
    | true =>
      simp only []
      rw [mem_quietsFrom]
      constructor
      · rintro ⟨j, h1, h2⟩
        exact ⟨j + 1, by simpa using h1, by rwa [show i + (j + 1) = i + 1 + j by omega]⟩
      · rintro ⟨j, h1, h2⟩
        rcases j with _ | j
        · exact absurd (List.contains_iff_mem.1 hc) (by simpa using h2)
        · exact ⟨j, by simpa using h1, by rwa [show i + 1 + j = i + (j + 1) by omega]⟩
    | false =>
      simp only [List.mem_cons]
      rw [mem_quietsFrom]
      constructor
      · rintro (rfl | ⟨j, h1, h2⟩)
        · exact ⟨0, rfl, fun h => by rw [Nat.add_zero, ← List.contains_iff_mem, hc] at h; cases h⟩
        · exact ⟨j + 1, by simpa using h1, by rwa [show i + (j + 1) = i + 1 + j by omega]⟩
      · rintro ⟨j, h1, h2⟩
        rcases j with _ | j
        · exact .inl (by simpa using h1.symm)
        · exact .inr ⟨j, by simpa using h1, by rwa [show i + 1 + j = i + (j + 1) by omega]⟩
/-- Where each of the quiet ones stands in the text: in the same order. -/
theorem quietsFrom_idx {ms : List Nat} : ∀ {l : List Oper} {i : Nat}, ∃ g : Nat → Nat, (∀ p q, p < q → g p < g q) ∧ ∀ p o, (quietsFrom ms l i)[p]? = some o → l[g p]? = some o ∧ i + g p ∉ ms
  | [], i => ⟨fun p => p, fun _ _ h => h, fun p o h => by simp [quietsFrom] at h⟩
  | x :: r, i => by
    obtain ⟨g, hg, h⟩ := quietsFrom_idx (ms := ms) (l := r) (i := i + 1)
    cases hc : ms.contains i with
    | true =>
      refine ⟨fun p => g p + 1, fun p q hpq => Nat.succ_lt_succ (hg p q hpq), fun p o ho => ?_⟩
      unfold quietsFrom at ho
      simp only [hc] at ho
      have := h p o ho
      exact ⟨by simpa using this.1, by rw [show i + (g p + 1) = i + 1 + g p by omega]; exact this.2⟩
    | false =>
      refine ⟨fun p => match p with | 0 => 0 | p + 1 => g p + 1, fun p q hpq => ?_, fun p o ho => ?_⟩
      · rcases p with _ | p <;> rcases q with _ | q
        · omega
        · simp only []; omega
        · omega
        · exact Nat.succ_lt_succ (hg p q (by omega))
      · unfold quietsFrom at ho
        simp only [hc] at ho
        rcases p with _ | p
        · refine ⟨by simpa using ho, fun hm => ?_⟩
          simp only [Nat.add_zero] at hm
          rw [← List.contains_iff_mem, hc] at hm
          cases hm
        · have := h p o (by simpa using ho)
          exact ⟨by simpa using this.1, by simp only []; rw [show i + (g p + 1) = i + 1 + g p by omega]; exact this.2⟩
def mainsOf (l : List Oper) : List Nat → List Oper
  | [] => []
  | j :: r => match l[j]? with
    | some o => o :: mainsOf l r
    | none => mainsOf l r
section
variable {P : Program} {w0 : World} {N : Nat}

theorem all_of_none_ready {l : List Oper} {m : Nat} {ms : List Nat} (H : DrawOk l m ms) {listed : Array Bool} (hs : listed.size = l.length) (hnil : Region.ready .any l.toArray listed = []) : ∀ j, j < l.length → IsL listed j := by
  intro j
  induction j using Nat.strongRecOn with
  | _ j ihj =>
    intro hj
    by_cases h : IsL listed j
    · exact h
    · exfalso
      have : j ∈ Region.ready .any l.toArray listed := (ready_iff hs).2 ⟨hj, h, fun k hk => by
        have := H.back j _ (List.getElem?_eq_getElem hj) k hk
        exact ihj k this (by omega)⟩
      rw [hnil] at this
      cases this

/-- What is listed: all up to k, nothing behind. -/
theorem tail_run {l : List Oper} {m : Nat} {ms : List Nat} (H : DrawOk l m ms) {Q : Exit → Act → World → Prop} : ∀ (fuel k : Nat) (listed : Array Bool) (a : Act) (w : World), m ≤ k → listed.size = l.length → l.length ≤ k + fuel →
    (∀ j, j < l.length → (IsL listed j ↔ j < k)) → wpList P l.toArray Q (l.drop k) a w → wpAny P .any l.toArray Q fuel listed a w := by
  intro fuel
  induction fuel with
  | zero =>
    intro k listed a w hmk hs hle hls h
    rw [List.drop_of_length_le (by omega)] at h
    refine ⟨?_, h⟩
    refine List.eq_nil_iff_forall_not_mem.2 fun i hi => ?_
    obtain ⟨h1, h2, _⟩ := (ready_iff hs).1 hi
    exact h2 ((hls i h1).2 (by omega))
  | succ fuel ih =>
    intro k listed a w hmk hs hle hls h
    have hcl : Closed l (IsL listed) := fun i o hi hL j hj => by
      have hil := (List.getElem?_eq_some_iff.1 hi).1
      have := H.back i o hi j hj
      exact (hls j (by omega)).2 (by have := (hls i hil).1 hL; omega)
    refine ⟨fun hnil => ?_, fun i hi => ?_⟩
    · have := all_of_none_ready H hs hnil
      by_cases hk : k < l.length
      · exact absurd ((hls k hk).1 (this k hk)) (by omega)
      · rw [List.drop_of_length_le (by omega)] at h
        exact h
    · obtain ⟨hil, hn, hp⟩ := (ready_iff hs).1 hi
      have hki : ¬ i < k := fun e => hn ((hls i hil).2 e)
      have : i = k := by
        rcases Nat.lt_or_ge k i with hlt | hge
        · have := H.tail _ hcl i _ (by omega) (List.getElem?_eq_getElem hil) hp k hlt
          exact absurd ((hls k (by omega)).1 this) (by omega)
        · omega
      subst this
      rw [List.drop_eq_getElem_cons hil] at h
      have hw : wpOp P l.toArray Q i (wpList P l.toArray Q (l.drop (i + 1))) a w := by
        simp only [wpList] at h
        simpa [wpOp, hil] using h
      refine wpOp_mono (fun a' w' h' => ?_) hw
      refine ih (i + 1) _ a' w' (by omega) (by simpa using hs) (by omega) (fun j hj => ?_) h'
      rw [isL_set (by omega), hls j hj]
      omega

set_option maxHeartbeats 1000000 in
theorem w_draw {id : Nat} {l : List Oper} {f : Frame} {es : List Ent} {K : Exit → Frame → List Ent → Prop} (m : Nat) (ms : List Nat) (G : List Ent → Prop) (hm : P.follows .mixedOrders = true) (hq : drawOk l m ms = true) (hG : G es)
    (hdst : ∀ o ∈ l, dok N o.dst = true)
    (h : QList P w0 N G l.toArray (quietsFrom ms (l.take m) 0) f fun F => MList P w0 N G (mainsOf l ms) F es fun F' es' => AList P w0 N l.toArray (l.drop m) F' es' (K .normal)) : AWp P w0 N (.region id l.toArray true) f es K := by
  have H := drawOk_of hq
  obtain ⟨gi, hgi, hgo⟩ := quietsFrom_idx (ms := ms) (l := l.take m) (i := 0)
  simp only [Nat.zero_add] at hgo
  have hgm : ∀ p o, (quietsFrom ms (l.take m) 0)[p]? = some o → gi p < m ∧ l[gi p]? = some o ∧ gi p ∉ ms := by
    intro p o hp
    have h1 := hgo p o hp
    have h2 := (List.getElem?_eq_some_iff.1 h1.1).1
    rw [List.length_take] at h2
    have h3 : gi p < m := by omega
    rw [List.getElem?_take, if_pos h3] at h1
    exact ⟨h3, h1.1, h1.2⟩
  have ginj : ∀ p q, gi p = gi q → p = q := by
    intro p q e
    rcases Nat.lt_trichotomy p q with h | h | h
    · have := hgi p q h; omega
    · exact h
    · have := hgi q p h; omega
  obtain ⟨F1, hk1, hbase, hquiet⟩ := qlist_end h
    (fun i o t hi ht j o' hj hd => by
      obtain ⟨h1, h2, h3⟩ := hgm i o hi
      obtain ⟨h4, h5, h6⟩ := hgm j o' hj
      have := H.wait _ _ h1 h2 t ht _ _ h4 h5 hd
      have := H.back _ _ h2 _ this.1
      rcases Nat.lt_or_ge j i with h7 | h7
      · exact h7
      · exfalso
        rcases Nat.lt_or_eq_of_le h7 with h8 | h8
        · have := hgi _ _ h8; omega
        · subst h8; omega)
    (fun i j o o' d hi hj hd hd' => by
      obtain ⟨h1, h2, h3⟩ := hgm i o hi
      obtain ⟨h4, h5, h6⟩ := hgm j o' hj
      exact ginj _ _ (H.dist _ _ _ _ d h1 h4 h2 h5 hd hd'))
  have hquiet' : ∀ (i : Nat) (o : Oper), i < m → i ∉ ms → l[i]? = some o → ∃ d v, o.dst = some d ∧ Nat.blt d N = true ∧ F1 d = v ∧ QStep P w0 N G l.toArray o F1 v := by
    intro i o him hn hi
    exact hquiet o (mem_quietsFrom.2 ⟨i, take_get him hi, by simpa using hn⟩)
  intro c A Q ok rf hk
  obtain ⟨x0, ok0⟩ := ok_drew ok
  refine wp_region_any hm ?_
  have key : ∀ (fuel : Nat) (listed : Array Bool) (c' : Core) (es' : List Ent) (F : Frame) (A' : Act) (rem : List Nat) (p : Nat), listed.size = l.length → ((listed.toList.take m).count false + (l.length - m) ≤ fuel) →
      Closed l (IsL listed) → (∀ j, m ≤ j → j < l.length → ¬ IsL listed j) → (rem = ms.drop p ∧ p ≤ ms.length ∧ (∀ j ∈ ms.take p, IsL listed j) ∧ ∀ j ∈ rem, ¬ IsL listed j) →
      Ext c es c' es' → Ok w0 c' es' → G es' → RepF N c' es' (mix l m listed F) A' →
      (∀ t, (∀ j ∈ ms, ∀ o, l[j]? = some o → o.dst ≠ some t) → F t = F1 t) →
      MList P w0 N G (mainsOf l rem) F es' (fun F' es' => AList P w0 N l.toArray (l.drop m) F' es' (K .normal)) →
      wpAny P .any l.toArray Q fuel listed A' c'.w := by
    intro fuel
    induction fuel with
    | zero =>
      intro listed c' es' F A' rem p hs hc hcl htl hrem x ok' hG' rf' hF hM
      have hlm : l.length = m := by have := H.le; omega
      have all : ∀ j, j < l.length → IsL listed j := by
        intro j hj
        refine Classical.byContradiction fun hn => ?_
        rw [isL_f (by omega)] at hn
        have hj' : j < listed.size := by omega
        have : false ∈ listed.toList.take m := by
          rw [List.take_of_length_le (by simp; omega), ← hn]
          simp [hj']
        have := List.count_pos_iff.2 this
        omega
      have hnr : rem = [] := by
        refine List.eq_nil_iff_forall_not_mem.2 fun j hj => ?_
        have hjm : j ∈ ms := by rw [hrem.1] at hj; exact List.mem_of_mem_drop hj
        exact hrem.2.2.2 j hj (all j (by have := H.lt j hjm; omega))
      subst hnr
      have hFm : mix l m listed F = F := by
        funext t
        unfold mix
        cases hb : blocked l m listed t with
        | false => rfl
        | true =>
          obtain ⟨j, o, _, h1, _, h3⟩ := blocked_iff.1 hb
          have hjl := (List.getElem?_eq_some_iff.1 h1).1
          exact absurd (all j hjl) ((isL_f (by omega)).2 h3)
      refine tail_run H 0 m listed A' c'.w (Nat.le_refl _) hs (by omega) (fun j hj => ⟨fun _ => by omega, fun _ => all j hj⟩) ?_
      simp only [mainsOf, MList] at hM
      exact hM c' A' Q ok' (hFm ▸ rf') fun c2 es2 f2 A2 x2 ok2 rf2 k2 => hk _ c2 es2 f2 A2 (x.trans x2) ok2 rf2 k2
    | succ fuel ih =>
      intro listed c' es' F A' rem p hs hc hcl htl hrem x ok' hG' rf' hF hM
      by_cases hall : ∀ j, j < m → IsL listed j
      · have hnr : rem = [] := by
          refine List.eq_nil_iff_forall_not_mem.2 fun j hj => ?_
          have hjm : j ∈ ms := by rw [hrem.1] at hj; exact List.mem_of_mem_drop hj
          exact hrem.2.2.2 j hj (hall j (H.lt j hjm))
        subst hnr
        have hFm : mix l m listed F = F := by
          funext t
          unfold mix
          cases hb : blocked l m listed t with
          | false => rfl
          | true =>
            obtain ⟨j, o, hjm, h1, _, h3⟩ := blocked_iff.1 hb
            have hjl := (List.getElem?_eq_some_iff.1 h1).1
            exact absurd (hall j hjm) ((isL_f (by omega)).2 h3)
        refine tail_run H (fuel + 1) m listed A' c'.w (Nat.le_refl _) hs (by omega) (fun j hj => ⟨fun hL => ?_, fun hlt => hall j hlt⟩) ?_
        · rcases Nat.lt_or_ge j m with h | h
          · exact h
          · exact absurd hL (htl j h hj)
        simp only [mainsOf, MList] at hM
        exact hM c' A' Q ok' (hFm ▸ rf') fun c2 es2 f2 A2 x2 ok2 rf2 k2 => hk _ c2 es2 f2 A2 (x.trans x2) ok2 rf2 k2
      · refine ⟨fun hnil => absurd (fun j hj => all_of_none_ready H hs hnil j (by have := H.le; omega)) hall, fun i hi => ?_⟩
        obtain ⟨hil, hn, hp⟩ := (ready_iff hs).1 hi
        have hio : l[i]? = some l[i] := List.getElem?_eq_getElem hil
        have him : i < m := by
          rcases Nat.lt_or_ge i m with h | h
          · exact h
          · exact absurd (fun j hj => H.tail _ hcl i _ h hio hp j (by omega)) hall
        have hils : i < listed.size := by omega
        -- what it looks at is there
        have there : ∀ t ∈ looks l l[i], blocked l m listed t = false := by
          intro t ht
          cases hb : blocked l m listed t with
          | false => rfl
          | true =>
            exfalso
            obtain ⟨j, o', hjm, h1, h2, h3⟩ := blocked_iff.1 hb
            have := hp j (H.wait i _ him hio t ht j o' hjm h1 h2).1
            exact (isL_f (by have := (List.getElem?_eq_some_iff.1 h1).1; omega)).2 h3 this
        have hcnt : (((listed.setIfInBounds i true).toList.take m).count false) + (l.length - m) ≤ fuel := by
          rw [Array.toList_setIfInBounds, List.take_set, List.count_set (by simp; omega)]
          have hfl := (isL_f hils).1 hn
          rw [Array.getD_eq_getD_getElem?, Array.getElem?_eq_getElem hils] at hfl
          simp only [Option.getD_some] at hfl
          have : (listed.toList.take m)[i]'(by simp; omega) = false := by simpa using hfl
          have e2 : (true == false) = false := rfl
          have hpos : 0 < (listed.toList.take m).count false := by
            rw [List.count_pos_iff, ← this]
            exact List.getElem_mem _
          simp only [this, beq_self_eq_true, if_true, e2, Bool.false_eq_true, if_false]
          omega
        have hcl' : Closed l (IsL (listed.setIfInBounds i true)) := by
          intro k o hko hL j hj
          rw [isL_set hils] at hL ⊢
          rcases hL with rfl | hL
          · rw [hio] at hko
            injection hko with e
            subst e
            exact .inr (hp j hj)
          · exact .inr (hcl k o hko hL j hj)
        have htl' : ∀ j, m ≤ j → j < l.length → ¬ IsL (listed.setIfInBounds i true) j := by
          intro j hmj hjl hL
          rw [isL_set hils] at hL
          rcases hL with rfl | hL
          · omega
          · exact htl j hmj hjl hL
        have hmix : ∀ (F2 : Frame) (d : Nat) (v : AV), (l[i]).dst = some d → F2 d = v → (∀ t, t ≠ d → F2 t = F t) → put (mix l m listed F) (some d) v = mix l m (listed.setIfInBounds i true) F2 := by
          intro F2 d v hd hv hne
          funext t
          simp only [put, upd, mix]
          by_cases htd : t = d
          · subst htd
            rw [if_pos rfl, if_neg, hv]
            intro hb
            obtain ⟨j, o', hjm, h1, h2, h3⟩ := blocked_iff.1 hb
            have : j = i := H.dist j i o' _ t hjm him h1 hio h2 hd
            subst this
            exact (isL_f (by simpa using hils)).2 h3 ((isL_set hils).2 (.inl rfl))
          · rw [if_neg htd, hne t htd]
            have : blocked l m (listed.setIfInBounds i true) t = blocked l m listed t := by
              rw [Bool.eq_iff_iff, blocked_iff, blocked_iff]
              have hji : ∀ {j o'}, l[j]? = some o' → o'.dst = some t → j ≠ i := by
                rintro j o' h1 h2 rfl
                rw [hio] at h1
                injection h1 with h1
                subst h1
                rw [hd] at h2
                injection h2 with h2
                exact htd h2.symm
              constructor
              · rintro ⟨j, o', hjm, h1, h2, h3⟩
                have hj := (List.getElem?_eq_some_iff.1 h1).1
                refine ⟨j, o', hjm, h1, h2, (isL_f (by omega)).1 fun hL => ?_⟩
                exact (isL_f (by simp; omega)).2 h3 ((isL_set hils).2 (.inr hL))
              · rintro ⟨j, o', hjm, h1, h2, h3⟩
                have hj := (List.getElem?_eq_some_iff.1 h1).1
                refine ⟨j, o', hjm, h1, h2, (isL_f (by simp; omega)).1 fun hL => ?_⟩
                rcases (isL_set hils).1 hL with e | hL
                · exact hji h1 h2 e
                · exact (isL_f (by omega)).2 h3 hL
            rw [this]
        simp only [wpOp, List.getElem?_toArray, hio]
        by_cases hmain : i ∈ ms
        · -- a main one: the first that is left
          obtain ⟨hr1, hr2, hr3, hr4⟩ := hrem
          have hgd := H.plain i _ him hmain hio
          rw [if_pos (by simp [Region.wanted, hgd])]
          left
          have hprev := H.chain _ hcl i _ him hmain hio hp
          have hir : i ∈ rem := by
            rw [hr1]
            rw [← List.take_append_drop p ms] at hmain
            rcases List.mem_append.1 hmain with h | h
            · exact absurd (hr3 i h) hn
            · exact h
          match rem, hr1, hr4, hir, hM with
          | [], _, _, hir, _ => cases hir
          | r0 :: rest, hr1, hr4, hir, hM =>
            have hpl : p < ms.length := by
              rcases Nat.lt_or_ge p ms.length with h | h
              · exact h
              · rw [List.drop_of_length_le h] at hr1; cases hr1
            rw [List.drop_eq_getElem_cons hpl] at hr1
            injection hr1 with e1 e2
            have hi0 : i = r0 := by
              rcases List.mem_cons.1 hir with h | h
              · exact h
              · exfalso
                have hr0m : r0 ∈ ms := by rw [e1]; exact List.getElem_mem _
                have hlt : r0 < i := by
                  have hp2 := H.rise
                  rw [← List.take_append_drop p ms, List.drop_eq_getElem_cons hpl] at hp2
                  have := (List.pairwise_append.1 hp2).2.1
                  rw [List.pairwise_cons] at this
                  rw [e1]
                  exact this.1 i (e2 ▸ h)
                exact hr4 r0 (by simp) (hprev r0 hr0m hlt)
            subst hi0
            have hMl : mainsOf l (i :: rest) = l[i] :: mainsOf l rest := by simp only [mainsOf, hio]
            rw [hMl] at hM
            simp only [MList] at hM
            refine hM (mix l m listed F) (fun o ho => ?_) c' A' _ Q ok' rf' fun c2 es2 f2 A2 x2 ok2 rf2 hk2 => ?_
            · cases o with
              | tmp t =>
                have : t ∈ looks l l[i] := by
                  simp only [looks, List.mem_append, List.mem_filterMap]
                  exact .inl ⟨.tmp t, by simpa using ho, rfl⟩
                simp only [ev, mix, there t this, Bool.false_eq_true, if_false]
              | _ => rfl
            · obtain ⟨v, rfl, hG2, hM2⟩ := hk2
              have hrem2 : rest = ms.drop (p + 1) ∧ p + 1 ≤ ms.length ∧ (∀ j ∈ ms.take (p + 1), IsL (listed.setIfInBounds i true) j) ∧ ∀ j ∈ rest, ¬ IsL (listed.setIfInBounds i true) j := by
                refine ⟨e2, hpl, fun j hj => ?_, fun j hj hL => ?_⟩
                · rw [isL_set hils]
                  rw [List.take_add_one, List.getElem?_eq_getElem hpl] at hj
                  rcases List.mem_append.1 hj with h | h
                  · exact .inr (hr3 j h)
                  · left
                    simp only [Option.toList_some, List.mem_singleton] at h
                    rw [h, e1]
                · rw [isL_set hils] at hL
                  rcases hL with rfl | hL
                  · have hp2 := H.rise
                    rw [← List.take_append_drop p ms, List.drop_eq_getElem_cons hpl] at hp2
                    have := (List.pairwise_append.1 hp2).2.1
                    rw [List.pairwise_cons, ← e1, ← e2] at this
                    have := this.1 _ hj
                    omega
                  · exact hr4 j (List.mem_cons_of_mem _ hj) hL
              cases hd : (l[i]).dst with
              | some d =>
                rw [hd] at rf2 hM2
                rw [hmix (upd F d v) d v hd (upd_same ..) (fun t ht => upd_ne _ _ ht)] at rf2
                refine ih _ c2 es2 (upd F d v) A2 rest (p + 1) (by simpa using hs) hcnt hcl' htl' hrem2 (x.trans x2) ok2 hG2 rf2 (fun t ht => ?_) hM2
                rw [upd_ne _ _ (fun e => ht i hmain _ hio (by rw [e]; exact hd)), hF t ht]
              | none =>
                rw [hd] at rf2 hM2
                have hsm : mix l m (listed.setIfInBounds i true) F = mix l m listed F := by
                  funext t
                  simp only [mix]
                  have : blocked l m (listed.setIfInBounds i true) t = blocked l m listed t := by
                    rw [Bool.eq_iff_iff, blocked_iff, blocked_iff]
                    have hji : ∀ {j o'}, l[j]? = some o' → o'.dst = some t → j ≠ i := by
                      rintro j o' h1 h2 rfl
                      rw [hio] at h1
                      injection h1 with h1
                      subst h1
                      rw [hd] at h2
                      cases h2
                    constructor
                    · rintro ⟨j, o', hjm, h1, h2, h3⟩
                      have hj := (List.getElem?_eq_some_iff.1 h1).1
                      refine ⟨j, o', hjm, h1, h2, (isL_f (by omega)).1 fun hL => ?_⟩
                      exact (isL_f (by simp; omega)).2 h3 ((isL_set hils).2 (.inr hL))
                    · rintro ⟨j, o', hjm, h1, h2, h3⟩
                      have hj := (List.getElem?_eq_some_iff.1 h1).1
                      refine ⟨j, o', hjm, h1, h2, (isL_f (by simp; omega)).1 fun hL => ?_⟩
                      rcases (isL_set hils).1 hL with e | hL
                      · exact hji h1 h2 e
                      · exact (isL_f (by omega)).2 h3 hL
                  rw [this]
                refine ih _ c2 es2 F A2 rest (p + 1) (by simpa using hs) hcnt hcl' htl' hrem2 (x.trans x2) ok2 hG2 ?_ hF hM2
                rw [hsm]
                exact rf2
        · -- a quiet one
          obtain ⟨d, v, hd, hdN, hv, step⟩ := hquiet' i _ him hmain hio
          have hFd : F d = v := by
            rw [hF d fun j hj o hjo hjd => ?_, hv]
            have : j = i := H.dist j i o _ d (H.lt j hj) him hjo hio hjd hd
            subst this
            exact hmain hj
          have hFl : ∀ t ∈ looks l l[i], F t = F1 t := by
            intro t ht
            refine hF t fun j hj o hjo hjd => ?_
            exact hmain ((H.wait i _ him hio t ht j o (H.lt j hj) hjo hjd).2 hj)
          have hrem2 : rem = ms.drop p ∧ p ≤ ms.length ∧ (∀ j ∈ ms.take p, IsL (listed.setIfInBounds i true) j) ∧ ∀ j ∈ rem, ¬ IsL (listed.setIfInBounds i true) j := by
            refine ⟨hrem.1, hrem.2.1, fun j hj => (isL_set hils).2 (.inr (hrem.2.2.1 j hj)), fun j hj hL => ?_⟩
            rcases (isL_set hils).1 hL with rfl | hL
            · exact hmain (by have := hrem.1 ▸ hj; exact List.mem_of_mem_drop this)
            · exact hrem.2.2.2 j hj hL
          have go : (∀ es, G es → QOp P w0 N l[i] F1 v es) → (l[i]).wp P A' c'.w (wpAny P .any l.toArray Q fuel (listed.setIfInBounds i true)) Q := by
            intro hqo
            refine hqo es' hG' (mix l m listed F) (fun o ho => ?_) c' A' _ Q ok' rf' fun c2 es2 f2 A2 x2 ok2 rf2 hk2 => ?_
            · cases o with
              | tmp t =>
                have : t ∈ looks l l[i] := by
                  simp only [looks, List.mem_append, List.mem_filterMap]
                  exact .inl ⟨.tmp t, by simpa using ho, rfl⟩
                simp only [ev, mix, there t this, Bool.false_eq_true, if_false]
                exact hFl t this
              | _ => rfl
            · obtain ⟨rfl, rfl⟩ := hk2
              rw [hd] at rf2
              rw [hmix F d v hd hFd (fun _ _ => rfl)] at rf2
              exact ih _ c2 es2 F A2 rem p (by simpa using hs) hcnt hcl' htl' hrem2 (x.trans x2) ok2 hG' rf2 hF hM
          unfold QStep at step
          split at step
          · rename_i hg
            rw [if_pos (by simp [Region.wanted, hg])]
            exact .inl (go step)
          · rename_i j want hg
            obtain ⟨gd, h1, h2, h3⟩ := step
            have hgl : gd ∈ looks l l[i] := by
              simp only [looks, List.mem_append, hg]
              right
              have h1' : (l[j]?).bind (·.dst) = some gd := by simpa using h1
              rw [h1']
              simp
            have hfd : mix l m listed F gd = F1 gd := by
              simp only [mix, there gd hgl, Bool.false_eq_true, if_false]
              exact hFl gd hgl
            rcases h3 with ⟨h3, h4⟩ | ⟨h3, h5⟩
            · have hy := yielded_of (ops := l.toArray) rf' h1 h2 (hfd.trans h3)
              rw [if_pos (by simp [Region.wanted, hg, hy])]
              exact .inl (go h4)
            · have hskip : Region.wanted l[i] (yielded l.toArray A'.tmps) = false := by
                rcases h3 with h3 | h3
                · have hy := yielded_of (ops := l.toArray) rf' h1 h2 (hfd.trans h3)
                  simp [Region.wanted, hg, hy]
                · have hy := yielded_undef (ops := l.toArray) rf' h1 (hfd.trans h3)
                  simp [Region.wanted, hg, hy]
              rw [hskip]
              simp only [Bool.false_eq_true, if_false]
              have rf2 := rf'.put (d := (l[i]).dst) (hdst _ (List.mem_of_getElem? hio)) (a := .raw undef) (v := undef) (by simp only [Rep])
              rw [hd, ← h5, hmix F d v hd hFd (fun _ _ => rfl), ← hd] at rf2
              exact ih _ c' es' F _ rem p (by simpa using hs) hcnt hcl' htl' hrem2 x ok' hG' rf2 hF hM
  refine key l.toArray.size (Array.replicate l.toArray.size false) _ es F1 A ms 0 (by simp) ?_ ?_ ?_ ⟨rfl, Nat.zero_le _, by simp, ?_⟩ x0 ok0 hG ?_ (fun _ _ => rfl) hk1
  · have := List.count_le_length (a := false) (l := (Array.replicate l.toArray.size false).toList.take m)
    simp only [List.length_take, Array.length_toList, Array.size_replicate, List.size_toArray] at this ⊢
    have := H.le
    omega
  · intro k o hko hL
    have := (List.getElem?_eq_some_iff.1 hko).1
    simp [IsL, this] at hL
  · intro j _ hj hL
    simp [IsL, hj] at hL
  · intro j hj hL
    have hjl : j < l.length := by have := H.lt j hj; have := H.le; omega
    simp [IsL, hjl] at hL
  · refine ⟨rf.size, fun t => ?_, rf.defers⟩
    unfold mix
    split
    · simp only [Rep]
    · rename_i hb
      have hft : F1 t = f t := by
        refine hbase t fun o ho hd => hb ?_
        obtain ⟨j, hj⟩ := List.mem_iff_getElem?.1 ho
        obtain ⟨h1, h2, h3⟩ := hgm j o hj
        refine blocked_iff.2 ⟨_, o, h1, h2, hd, ?_⟩
        have := (List.getElem?_eq_some_iff.1 h2).1
        simp [this]
      rw [hft]
      exact Rep.ext (es := some es) (es' := some es) _ x0 (rf.rep t)
end
end Go.Proofs.YtfdgbghlanbddaaDoor.Av
