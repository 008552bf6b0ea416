import Derived.Test.YtfdgbghlanbddaaDoorAvK0
import Derived.Test.YtfdgbghlanbddaaDoorAvK1
import Derived.Test.YtfdgbghlanbddaaDoorAvK2
import Derived.Test.YtfdgbghlanbddaaDoorAvK3
import Derived.Test.YtfdgbghlanbddaaDoorAvK4
import Derived.Test.YtfdgbghlanbddaaDoorAvK5
import Derived.Test.YtfdgbghlanbddaaDoorRows
import Derived.OpenVars
import Derived.Deep.Slices
import Derived.Deep.Strs
import Derived.OpenShut
import Derived.Test.YtfdgbghlanbddaaDoorCards
import Derived.Test.YtfdgbghlanbddaaDoorTie
import Derived.WalkKit
import Derived.ProofKit
import Derived.Carry
import Derived.Deep.DeepHandedRow
import Derived.Lib.LaidTab
import Derived.KernelRfl
set_option linter.unusedVariables false
set_option linter.unusedSimpArgs false
namespace Go.Proofs.YtfdgbghlanbddaaDoor.Av
section
open Go.RowKit
/-- The first m operations: those in ms in any order that their edges leave open, the others quiet; all later ones one behind the other, behind these. -/
def drawOkT (l : List Oper) (m : Nat) (ms : List Nat) : Bool :=
 let F := far l []
 decide (m ≤ l.length) && decide (((l.take m).filterMap (·.dst)).Nodup) &&
 (l.zipIdx.all fun x => (preds x.1).all fun j => decide (j < x.2)) &&
 ((l.take m).zipIdx.all fun x => (looks l x.1).all fun t => (l.take m).zipIdx.all fun y => !(y.1.dst == some t) || ((preds x.1).contains y.2 && (!(ms.contains y.2) || ms.contains x.2))) &&
 (l.zipIdx.all fun x => decide (x.2 < m) || (List.range x.2).all fun j => (F.getD x.2 []).contains j) &&
 ((l.take m).zipIdx.all fun x => if ms.contains x.2 then x.1.guard.isNone else x.1.dst.isSome) &&
 decide ms.Nodup && ms.all (fun j => decide (j < m))
structure DrawOkT (l : List Oper) (m : Nat) (ms : List Nat) : Prop where
 le : m ≤ l.length
 dist : ∀ (i j : Nat) (o o' : Oper) (d : Nat), i < m → j < m → l[i]? = some o → l[j]? = some o' → o.dst = some d → o'.dst = some d → i = j
 back : ∀ (i : Nat) (o : Oper), l[i]? = some o → ∀ j ∈ preds o, j < i
 wait : ∀ (i : Nat) (o : Oper), i < m → l[i]? = some o → ∀ t ∈ looks l o, ∀ (j : Nat) (o' : Oper), j < m → l[j]? = some o' → o'.dst = some t → j ∈ preds o ∧ (j ∈ ms → i ∈ ms)
 tail : ∀ (L : Nat → Prop), Closed l L → ∀ (i : Nat) (o : Oper), m ≤ i → l[i]? = some o → (∀ j ∈ preds o, L j) → ∀ j, j < i → L j
 quiet : ∀ (i : Nat) (o : Oper), i < m → i ∉ ms → l[i]? = some o → ∃ d, o.dst = some d
 plain : ∀ (i : Nat) (o : Oper), i < m → i ∈ ms → l[i]? = some o → o.guard = none
 farL : ∀ (L : Nat → Prop), Closed l L → ∀ (i : Nat) (o : Oper), l[i]? = some o → (∀ j ∈ preds o, L j) → ∀ j ∈ (far l []).getD i [], L j
 nodup : ms.Nodup
 lt : ∀ j ∈ ms, j < m
theorem drawOkT_of {l : List Oper} {m : Nat} {ms : List Nat} (h : drawOkT l m ms = true) : DrawOkT l m ms := by
 simp only [drawOkT, Bool.and_eq_true, decide_eq_true_eq, List.all_eq_true] at h
 obtain ⟨⟨⟨⟨⟨⟨⟨h0, h1⟩, h2⟩, h3⟩, h4⟩, h5⟩, h6⟩, h7⟩ := h
 have mem : ∀ {i o}, i < m → l[i]? = some o → (o, i) ∈ (l.take m).zipIdx := fun hm hi => List.mem_zipIdx_iff_getElem?.2 (by simpa using take_get hm hi)
 have mem' : ∀ {i o}, l[i]? = some o → (o, i) ∈ l.zipIdx := fun hi => List.mem_zipIdx_iff_getElem?.2 (by simpa using hi)
 have snd : ∀ (L : Nat → Prop), Closed l L → ∀ (i : Nat) (o : Oper), l[i]? = some o → (∀ j ∈ preds o, L j) → ∀ j ∈ (far l []).getD i [], L j :=
  fun L hL => far_sound hL l [] (by simp) (fun i o hi => by simp at hi)
 refine ⟨h0, fun i j o o' d him hjm hi hj hd hd' => nodup_filterMap_idx h1 (take_get him hi) (take_get hjm hj) hd hd', fun i o hi j hj => h2 _ (mem' hi) j hj, fun i o him hi t ht j o' hjm hj hd => ?_, fun L hL i o hmi hi hp j hj => ?_, fun i o him hn hi => ?_, fun i o him hn hi => ?_, snd, h6, fun j hj => h7 j hj⟩
 ·have := h3 _ (mem him hi) t ht _ (mem hjm hj)
  simp only [hd, beq_self_eq_true, Bool.not_true, Bool.false_or, Bool.and_eq_true, List.contains_iff_mem, Bool.or_eq_true, Bool.not_eq_true'] at this
  refine ⟨this.1, fun hj => ?_⟩
  rcases this.2 with h8 | h8
  ·simp [hj] at h8
  ·exact h8
 ·have := h4 _ (mem' hi)
  simp only [Bool.or_eq_true, decide_eq_true_eq, List.all_eq_true, List.mem_range, List.contains_iff_mem] at this
  rcases this with h8 | h8
  ·omega
  ·exact snd L hL i o hi hp j (h8 j hj)
 ·have := h5 _ (mem him hi)
  rw [if_neg (by simpa using hn)] at this
  exact Option.isSome_iff_exists.1 this
 ·have := h5 _ (mem him hi)
  rw [if_pos (by simpa using hn)] at this
  exact Option.isNone_iff_eq_none.1 this
/-- Those of the rest ahead of which nothing of the rest must come. -/
def readyM (Fr : List (List Nat)) (rem : List Nat) : List Nat := rem.filter fun i => rem.all fun j => !((Fr.getD i []).contains j)
/-- The others, in whatever order. -/
def MTree (P : Program) (w0 : World) (N : Nat) (G : List Ent → Prop) (l : List Oper) : Nat → List Nat → Frame → List Ent → (Frame → List Ent → Prop) → Prop
 | 0, _, F, es, k => k F es
 | n + 1, rem, F, es, k => ∀ i ∈ readyM (far l []) rem, ∀ o, l[i]? = some o → MList P w0 N G [o] F es fun F' es' => MTree P w0 N G l n (rem.erase i) F' es' k
section
variable {P : Program} {w0 : World} {N : Nat}

theorem all_of_none_readyT {l : List Oper} {m : Nat} {ms : List Nat} (H : DrawOkT l m ms) {listed : Array Bool} (hs : listed.size = l.length) (hnil : Region.ready .any l.toArray listed = []) : ∀ j, j < l.length → IsL listed j := by
 intro j
 induction j using Nat.strongRecOn with
 | _ j ihj =>
  intro hj
  by_cases h : IsL listed j
  ·exact h
  ·exfalso
   have : j ∈ Region.ready .any l.toArray listed := (ready_iff hs).2 ⟨hj, h, fun k hk => by
    have := H.back j _ (List.getElem?_eq_getElem hj) k hk
    exact ihj k this (by omega)⟩
   rw [hnil] at this
   cases this

/-- What is listed: all up to k, nothing behind. -/
theorem tail_runT {l : List Oper} {m : Nat} {ms : List Nat} (H : DrawOkT l m ms) {Q : Exit → Act → World → Prop} : ∀ (fuel k : Nat) (listed : Array Bool) (a : Act) (w : World), m ≤ k → listed.size = l.length → l.length ≤ k + fuel →
  (∀ j, j < l.length → (IsL listed j ↔ j < k)) → wpList P l.toArray Q (l.drop k) a w → wpAny P .any l.toArray Q fuel listed a w := by
 intro fuel
 induction fuel with
 | zero =>
  intro k listed a w hmk hs hle hls h
  rw [List.drop_of_length_le (by omega)] at h
  refine ⟨?_, h⟩
  refine List.eq_nil_iff_forall_not_mem.2 fun i hi => ?_
  obtain ⟨h1, h2, _⟩ := (ready_iff hs).1 hi
  exact h2 ((hls i h1).2 (by omega))
 | succ fuel ih =>
  intro k listed a w hmk hs hle hls h
  have hcl : Closed l (IsL listed) := fun i o hi hL j hj => by
   have hil := (List.getElem?_eq_some_iff.1 hi).1
   have := H.back i o hi j hj
   exact (hls j (by omega)).2 (by have := (hls i hil).1 hL; omega)
  refine ⟨fun hnil => ?_, fun i hi => ?_⟩
  ·have := all_of_none_readyT H hs hnil
   by_cases hk : k < l.length
   ·exact absurd ((hls k hk).1 (this k hk)) (by omega)
   ·rw [List.drop_of_length_le (by omega)] at h
    exact h
  ·obtain ⟨hil, hn, hp⟩ := (ready_iff hs).1 hi
   have hki : ¬ i < k := fun e => hn ((hls i hil).2 e)
   have : i = k := by
    rcases Nat.lt_or_ge k i with hlt | hge
    ·have := H.tail _ hcl i _ (by omega) (List.getElem?_eq_getElem hil) hp k hlt
     exact absurd ((hls k (by omega)).1 this) (by omega)
    ·omega
   subst this
   rw [List.drop_eq_getElem_cons hil] at h
   have hw : wpOp P l.toArray Q i (wpList P l.toArray Q (l.drop (i + 1))) a w := by
    simp only [wpList] at h
    simpa [wpOp, hil] using h
   refine wpOp_mono (fun a' w' h' => ?_) hw
   refine ih (i + 1) _ a' w' (by omega) (by simpa using hs) (by omega) (fun j hj => ?_) h'
   rw [isL_set (by omega), hls j hj]
   omega

set_option maxHeartbeats 1000000 in
theorem w_drawT {id : Nat} {l : List Oper} {f : Frame} {es : List Ent} {K : Exit → Frame → List Ent → Prop} (m : Nat) (ms : List Nat) (G : List Ent → Prop) (hm : P.follows .mixedOrders = true) (hq : drawOkT l m ms = true) (hG : G es)
    (hdst : ∀ o ∈ l, dok N o.dst = true)
    (h : QList P w0 N G l.toArray (quietsFrom ms (l.take m) 0) f fun F => MTree P w0 N G l ms.length ms F es fun F' es' => AList P w0 N l.toArray (l.drop m) F' es' (K .normal)) : AWp P w0 N (.region id l.toArray true) f es K := by
  have H := drawOkT_of hq
  obtain ⟨gi, hgi, hgo⟩ := quietsFrom_idx (ms := ms) (l := l.take m) (i := 0)
  simp only [Nat.zero_add] at hgo
  have hgm : ∀ p o, (quietsFrom ms (l.take m) 0)[p]? = some o → gi p < m ∧ l[gi p]? = some o ∧ gi p ∉ ms := by
    intro p o hp
    have h1 := hgo p o hp
    have h2 := (List.getElem?_eq_some_iff.1 h1.1).1
    rw [List.length_take] at h2
    have h3 : gi p < m := by omega
    rw [List.getElem?_take, if_pos h3] at h1
    exact ⟨h3, h1.1, h1.2⟩
  have ginj : ∀ p q, gi p = gi q → p = q := by
    intro p q e
    rcases Nat.lt_trichotomy p q with h | h | h
    · have := hgi p q h; omega
    · exact h
    · have := hgi q p h; omega
  obtain ⟨F1, hk1, hbase, hquiet⟩ := qlist_end h
    (fun i o t hi ht j o' hj hd => by
      obtain ⟨h1, h2, h3⟩ := hgm i o hi
      obtain ⟨h4, h5, h6⟩ := hgm j o' hj
      have := H.wait _ _ h1 h2 t ht _ _ h4 h5 hd
      have := H.back _ _ h2 _ this.1
      rcases Nat.lt_or_ge j i with h7 | h7
      · exact h7
      · exfalso
        rcases Nat.lt_or_eq_of_le h7 with h8 | h8
        · have := hgi _ _ h8; omega
        · subst h8; omega)
    (fun i j o o' d hi hj hd hd' => by
      obtain ⟨h1, h2, h3⟩ := hgm i o hi
      obtain ⟨h4, h5, h6⟩ := hgm j o' hj
      exact ginj _ _ (H.dist _ _ _ _ d h1 h4 h2 h5 hd hd'))
  have hquiet' : ∀ (i : Nat) (o : Oper), i < m → i ∉ ms → l[i]? = some o → ∃ d v, o.dst = some d ∧ Nat.blt d N = true ∧ F1 d = v ∧ QStep P w0 N G l.toArray o F1 v := by
    intro i o him hn hi
    exact hquiet o (mem_quietsFrom.2 ⟨i, take_get him hi, by simpa using hn⟩)
  intro c A Q ok rf hk
  obtain ⟨x0, ok0⟩ := ok_drew ok
  refine wp_region_any hm ?_
  have key : ∀ (fuel : Nat) (listed : Array Bool) (c' : Core) (es' : List Ent) (F : Frame) (A' : Act) (rem : List Nat) (p : Nat), listed.size = l.length → ((listed.toList.take m).count false + (l.length - m) ≤ fuel) →
      Closed l (IsL listed) → (∀ j, m ≤ j → j < l.length → ¬ IsL listed j) → (rem.length = p ∧ rem.Nodup ∧ (∀ j ∈ rem, j ∈ ms) ∧ (∀ j ∈ ms, j ∉ rem → IsL listed j) ∧ ∀ j ∈ rem, ¬ IsL listed j) →
      Ext c es c' es' → Ok w0 c' es' → G es' → RepF N c' es' (mix l m listed F) A' →
      (∀ t, (∀ j ∈ ms, ∀ o, l[j]? = some o → o.dst ≠ some t) → F t = F1 t) →
      MTree P w0 N G l p rem F es' (fun F' es' => AList P w0 N l.toArray (l.drop m) F' es' (K .normal)) →
      wpAny P .any l.toArray Q fuel listed A' c'.w := by
    intro fuel
    induction fuel with
    | zero =>
      intro listed c' es' F A' rem p hs hc hcl htl hrem x ok' hG' rf' hF hM
      have hlm : l.length = m := by have := H.le; omega
      have all : ∀ j, j < l.length → IsL listed j := by
        intro j hj
        refine Classical.byContradiction fun hn => ?_
        rw [isL_f (by omega)] at hn
        have hj' : j < listed.size := by omega
        have : false ∈ listed.toList.take m := by
          rw [List.take_of_length_le (by simp; omega), ← hn]
          simp [hj']
        have := List.count_pos_iff.2 this
        omega
      have hnr : rem = [] := by
        refine List.eq_nil_iff_forall_not_mem.2 fun j hj => ?_
        have hjm : j ∈ ms := hrem.2.2.1 j hj
        exact hrem.2.2.2.2 j hj (all j (by have := H.lt j hjm; omega))
      subst hnr
      obtain rfl : p = 0 := hrem.1.symm
      have hFm : mix l m listed F = F := by
        funext t
        unfold mix
        cases hb : blocked l m listed t with
        | false => rfl
        | true =>
          obtain ⟨j, o, _, h1, _, h3⟩ := blocked_iff.1 hb
          have hjl := (List.getElem?_eq_some_iff.1 h1).1
          exact absurd (all j hjl) ((isL_f (by omega)).2 h3)
      refine tail_runT H 0 m listed A' c'.w (Nat.le_refl _) hs (by omega) (fun j hj => ⟨fun _ => by omega, fun _ => all j hj⟩) ?_
      simp only [MTree] at hM
      exact hM c' A' Q ok' (hFm ▸ rf') fun c2 es2 f2 A2 x2 ok2 rf2 k2 => hk _ c2 es2 f2 A2 (x.trans x2) ok2 rf2 k2
    | succ fuel ih =>
      intro listed c' es' F A' rem p hs hc hcl htl hrem x ok' hG' rf' hF hM
      by_cases hall : ∀ j, j < m → IsL listed j
      · have hnr : rem = [] := by
          refine List.eq_nil_iff_forall_not_mem.2 fun j hj => ?_
          have hjm : j ∈ ms := hrem.2.2.1 j hj
          exact hrem.2.2.2.2 j hj (hall j (H.lt j hjm))
        subst hnr
        obtain rfl : p = 0 := hrem.1.symm
        have hFm : mix l m listed F = F := by
          funext t
          unfold mix
          cases hb : blocked l m listed t with
          | false => rfl
          | true =>
            obtain ⟨j, o, hjm, h1, _, h3⟩ := blocked_iff.1 hb
            have hjl := (List.getElem?_eq_some_iff.1 h1).1
            exact absurd (hall j hjm) ((isL_f (by omega)).2 h3)
        refine tail_runT H (fuel + 1) m listed A' c'.w (Nat.le_refl _) hs (by omega) (fun j hj => ⟨fun hL => ?_, fun hlt => hall j hlt⟩) ?_
        · rcases Nat.lt_or_ge j m with h | h
          · exact h
          · exact absurd hL (htl j h hj)
        simp only [MTree] at hM
        exact hM c' A' Q ok' (hFm ▸ rf') fun c2 es2 f2 A2 x2 ok2 rf2 k2 => hk _ c2 es2 f2 A2 (x.trans x2) ok2 rf2 k2
      · refine ⟨fun hnil => absurd (fun j hj => all_of_none_readyT H hs hnil j (by have := H.le; omega)) hall, fun i hi => ?_⟩
        obtain ⟨hil, hn, hp⟩ := (ready_iff hs).1 hi
        have hio : l[i]? = some l[i] := List.getElem?_eq_getElem hil
        have him : i < m := by
          rcases Nat.lt_or_ge i m with h | h
          · exact h
          · exact absurd (fun j hj => H.tail _ hcl i _ h hio hp j (by omega)) hall
        have hils : i < listed.size := by omega
        -- what it looks at is there
        have there : ∀ t ∈ looks l l[i], blocked l m listed t = false := by
          intro t ht
          cases hb : blocked l m listed t with
          | false => rfl
          | true =>
            exfalso
            obtain ⟨j, o', hjm, h1, h2, h3⟩ := blocked_iff.1 hb
            have := hp j (H.wait i _ him hio t ht j o' hjm h1 h2).1
            exact (isL_f (by have := (List.getElem?_eq_some_iff.1 h1).1; omega)).2 h3 this
        have hcnt : (((listed.setIfInBounds i true).toList.take m).count false) + (l.length - m) ≤ fuel := by
          rw [Array.toList_setIfInBounds, List.take_set, List.count_set (by simp; omega)]
          have hfl := (isL_f hils).1 hn
          rw [Array.getD_eq_getD_getElem?, Array.getElem?_eq_getElem hils] at hfl
          simp only [Option.getD_some] at hfl
          have : (listed.toList.take m)[i]'(by simp; omega) = false := by simpa using hfl
          have e2 : (true == false) = false := rfl
          have hpos : 0 < (listed.toList.take m).count false := by
            rw [List.count_pos_iff, ← this]
            exact List.getElem_mem _
          simp only [this, beq_self_eq_true, if_true, e2, Bool.false_eq_true, if_false]
          omega
        have hcl' : Closed l (IsL (listed.setIfInBounds i true)) := by
          intro k o hko hL j hj
          rw [isL_set hils] at hL ⊢
          rcases hL with rfl | hL
          · rw [hio] at hko
            injection hko with e
            subst e
            exact .inr (hp j hj)
          · exact .inr (hcl k o hko hL j hj)
        have htl' : ∀ j, m ≤ j → j < l.length → ¬ IsL (listed.setIfInBounds i true) j := by
          intro j hmj hjl hL
          rw [isL_set hils] at hL
          rcases hL with rfl | hL
          · omega
          · exact htl j hmj hjl hL
        have hmix : ∀ (F2 : Frame) (d : Nat) (v : AV), (l[i]).dst = some d → F2 d = v → (∀ t, t ≠ d → F2 t = F t) → put (mix l m listed F) (some d) v = mix l m (listed.setIfInBounds i true) F2 := by
          intro F2 d v hd hv hne
          funext t
          simp only [put, upd, mix]
          by_cases htd : t = d
          · subst htd
            rw [if_pos rfl, if_neg, hv]
            intro hb
            obtain ⟨j, o', hjm, h1, h2, h3⟩ := blocked_iff.1 hb
            have : j = i := H.dist j i o' _ t hjm him h1 hio h2 hd
            subst this
            exact (isL_f (by simpa using hils)).2 h3 ((isL_set hils).2 (.inl rfl))
          · rw [if_neg htd, hne t htd]
            have : blocked l m (listed.setIfInBounds i true) t = blocked l m listed t := by
              rw [Bool.eq_iff_iff, blocked_iff, blocked_iff]
              have hji : ∀ {j o'}, l[j]? = some o' → o'.dst = some t → j ≠ i := by
                rintro j o' h1 h2 rfl
                rw [hio] at h1
                injection h1 with h1
                subst h1
                rw [hd] at h2
                injection h2 with h2
                exact htd h2.symm
              constructor
              · rintro ⟨j, o', hjm, h1, h2, h3⟩
                have hj := (List.getElem?_eq_some_iff.1 h1).1
                refine ⟨j, o', hjm, h1, h2, (isL_f (by omega)).1 fun hL => ?_⟩
                exact (isL_f (by simp; omega)).2 h3 ((isL_set hils).2 (.inr hL))
              · rintro ⟨j, o', hjm, h1, h2, h3⟩
                have hj := (List.getElem?_eq_some_iff.1 h1).1
                refine ⟨j, o', hjm, h1, h2, (isL_f (by simp; omega)).1 fun hL => ?_⟩
                rcases (isL_set hils).1 hL with e | hL
                · exact hji h1 h2 e
                · exact (isL_f (by omega)).2 h3 hL
            rw [this]
        simp only [wpOp, List.getElem?_toArray, hio]
        by_cases hmain : i ∈ ms
        · -- a main one
          obtain ⟨hr1, hr2, hr3, hr4, hr5⟩ := hrem
          have hgd := H.plain i _ him hmain hio
          rw [if_pos (by simp [Region.wanted, hgd])]
          left
          have hir : i ∈ rem := Classical.byContradiction fun h => hn (hr4 i hmain h)
          have hrd : i ∈ readyM (far l []) rem := by
            unfold readyM
            rw [List.mem_filter]
            refine ⟨hir, ?_⟩
            rw [List.all_eq_true]
            intro j hj
            rw [Bool.not_eq_true', Bool.eq_false_iff]
            intro hc
            exact hr5 j hj (H.farL _ hcl i _ hio hp j (List.contains_iff_mem.1 hc))
          have hp0 : 0 < p := by
            rw [← hr1]
            exact List.length_pos_of_mem hir
          obtain ⟨p, rfl⟩ : ∃ q, p = q + 1 := ⟨p - 1, by omega⟩
          · simp only [MTree] at hM
            have hM := hM i hrd l[i] hio
            simp only [MList] at hM
            refine hM (mix l m listed F) (fun o ho => ?_) c' A' _ Q ok' rf' fun c2 es2 f2 A2 x2 ok2 rf2 hk2 => ?_
            · cases o with
              | tmp t =>
                have : t ∈ looks l l[i] := by
                  simp only [looks, List.mem_append, List.mem_filterMap]
                  exact .inl ⟨.tmp t, by simpa using ho, rfl⟩
                simp only [ev, mix, there t this, Bool.false_eq_true, if_false]
              | _ => rfl
            · obtain ⟨v, rfl, hG2, hM2⟩ := hk2
              have hrem2 : (rem.erase i).length = p ∧ (rem.erase i).Nodup ∧ (∀ j ∈ rem.erase i, j ∈ ms) ∧ (∀ j ∈ ms, j ∉ rem.erase i → IsL (listed.setIfInBounds i true) j) ∧ ∀ j ∈ rem.erase i, ¬ IsL (listed.setIfInBounds i true) j := by
                refine ⟨by rw [List.length_erase_of_mem hir, hr1]; rfl, hr2.erase i, fun j hj => hr3 j (List.mem_of_mem_erase hj), fun j hj hj2 => ?_, fun j hj hL => ?_⟩
                · rw [isL_set hils]
                  by_cases hji : j = i
                  · exact .inl hji
                  · exact .inr (hr4 j hj fun h => hj2 ((List.mem_erase_of_ne hji).2 h))
                · rw [isL_set hils] at hL
                  rcases hL with rfl | hL
                  · exact hr2.not_mem_erase hj
                  · exact hr5 j (List.mem_of_mem_erase hj) hL
              cases hd : (l[i]).dst with
              | some d =>
                rw [hd] at rf2 hM2
                rw [hmix (upd F d v) d v hd (upd_same ..) (fun t ht => upd_ne _ _ ht)] at rf2
                refine ih _ c2 es2 (upd F d v) A2 (rem.erase i) p (by simpa using hs) hcnt hcl' htl' hrem2 (x.trans x2) ok2 hG2 rf2 (fun t ht => ?_) hM2
                rw [upd_ne _ _ (fun e => ht i hmain _ hio (by rw [e]; exact hd)), hF t ht]
              | none =>
                rw [hd] at rf2 hM2
                have hsm : mix l m (listed.setIfInBounds i true) F = mix l m listed F := by
                  funext t
                  simp only [mix]
                  have : blocked l m (listed.setIfInBounds i true) t = blocked l m listed t := by
                    rw [Bool.eq_iff_iff, blocked_iff, blocked_iff]
                    have hji : ∀ {j o'}, l[j]? = some o' → o'.dst = some t → j ≠ i := by
                      rintro j o' h1 h2 rfl
                      rw [hio] at h1
                      injection h1 with h1
                      subst h1
                      rw [hd] at h2
                      cases h2
                    constructor
                    · rintro ⟨j, o', hjm, h1, h2, h3⟩
                      have hj := (List.getElem?_eq_some_iff.1 h1).1
                      refine ⟨j, o', hjm, h1, h2, (isL_f (by omega)).1 fun hL => ?_⟩
                      exact (isL_f (by simp; omega)).2 h3 ((isL_set hils).2 (.inr hL))
                    · rintro ⟨j, o', hjm, h1, h2, h3⟩
                      have hj := (List.getElem?_eq_some_iff.1 h1).1
                      refine ⟨j, o', hjm, h1, h2, (isL_f (by simp; omega)).1 fun hL => ?_⟩
                      rcases (isL_set hils).1 hL with e | hL
                      · exact hji h1 h2 e
                      · exact (isL_f (by omega)).2 h3 hL
                  rw [this]
                refine ih _ c2 es2 F A2 (rem.erase i) p (by simpa using hs) hcnt hcl' htl' hrem2 (x.trans x2) ok2 hG2 ?_ hF hM2
                rw [hsm]
                exact rf2
        · -- a quiet one
          obtain ⟨d, v, hd, hdN, hv, step⟩ := hquiet' i _ him hmain hio
          have hFd : F d = v := by
            rw [hF d fun j hj o hjo hjd => ?_, hv]
            have : j = i := H.dist j i o _ d (H.lt j hj) him hjo hio hjd hd
            subst this
            exact hmain hj
          have hFl : ∀ t ∈ looks l l[i], F t = F1 t := by
            intro t ht
            refine hF t fun j hj o hjo hjd => ?_
            exact hmain ((H.wait i _ him hio t ht j o (H.lt j hj) hjo hjd).2 hj)
          have hrem2 : rem.length = p ∧ rem.Nodup ∧ (∀ j ∈ rem, j ∈ ms) ∧ (∀ j ∈ ms, j ∉ rem → IsL (listed.setIfInBounds i true) j) ∧ ∀ j ∈ rem, ¬ IsL (listed.setIfInBounds i true) j := by
            refine ⟨hrem.1, hrem.2.1, hrem.2.2.1, fun j hj hj2 => (isL_set hils).2 (.inr (hrem.2.2.2.1 j hj hj2)), fun j hj hL => ?_⟩
            rcases (isL_set hils).1 hL with rfl | hL
            · exact hmain (hrem.2.2.1 j hj)
            · exact hrem.2.2.2.2 j hj hL
          have go : (∀ es, G es → QOp P w0 N l[i] F1 v es) → (l[i]).wp P A' c'.w (wpAny P .any l.toArray Q fuel (listed.setIfInBounds i true)) Q := by
            intro hqo
            refine hqo es' hG' (mix l m listed F) (fun o ho => ?_) c' A' _ Q ok' rf' fun c2 es2 f2 A2 x2 ok2 rf2 hk2 => ?_
            · cases o with
              | tmp t =>
                have : t ∈ looks l l[i] := by
                  simp only [looks, List.mem_append, List.mem_filterMap]
                  exact .inl ⟨.tmp t, by simpa using ho, rfl⟩
                simp only [ev, mix, there t this, Bool.false_eq_true, if_false]
                exact hFl t this
              | _ => rfl
            · obtain ⟨rfl, rfl⟩ := hk2
              rw [hd] at rf2
              rw [hmix F d v hd hFd (fun _ _ => rfl)] at rf2
              exact ih _ c2 es2 F A2 rem p (by simpa using hs) hcnt hcl' htl' hrem2 (x.trans x2) ok2 hG' rf2 hF hM
          unfold QStep at step
          split at step
          · rename_i hg
            rw [if_pos (by simp [Region.wanted, hg])]
            exact .inl (go step)
          · rename_i j want hg
            obtain ⟨gd, h1, h2, h3⟩ := step
            have hgl : gd ∈ looks l l[i] := by
              simp only [looks, List.mem_append, hg]
              right
              have h1' : (l[j]?).bind (·.dst) = some gd := by simpa using h1
              rw [h1']
              simp
            have hfd : mix l m listed F gd = F1 gd := by
              simp only [mix, there gd hgl, Bool.false_eq_true, if_false]
              exact hFl gd hgl
            rcases h3 with ⟨h3, h4⟩ | ⟨h3, h5⟩
            · have hy := yielded_of (ops := l.toArray) rf' h1 h2 (hfd.trans h3)
              rw [if_pos (by simp [Region.wanted, hg, hy])]
              exact .inl (go h4)
            · have hskip : Region.wanted l[i] (yielded l.toArray A'.tmps) = false := by
                rcases h3 with h3 | h3
                · have hy := yielded_of (ops := l.toArray) rf' h1 h2 (hfd.trans h3)
                  simp [Region.wanted, hg, hy]
                · have hy := yielded_undef (ops := l.toArray) rf' h1 (hfd.trans h3)
                  simp [Region.wanted, hg, hy]
              rw [hskip]
              simp only [Bool.false_eq_true, if_false]
              have rf2 := rf'.put (d := (l[i]).dst) (hdst _ (List.mem_of_getElem? hio)) (a := .raw undef) (v := undef) (by simp only [Rep])
              rw [hd, ← h5, hmix F d v hd hFd (fun _ _ => rfl), ← hd] at rf2
              exact ih _ c' es' F _ rem p (by simpa using hs) hcnt hcl' htl' hrem2 x ok' hG' rf2 hF hM
  refine key l.toArray.size (Array.replicate l.toArray.size false) _ es F1 A ms ms.length (by simp) ?_ ?_ ?_ ⟨rfl, H.nodup, fun _ h => h, fun j h1 h2 => absurd h1 h2, ?_⟩ x0 ok0 hG ?_ (fun _ _ => rfl) hk1
  · have := List.count_le_length (a := false) (l := (Array.replicate l.toArray.size false).toList.take m)
    simp only [List.length_take, Array.length_toList, Array.size_replicate, List.size_toArray] at this ⊢
    have := H.le
    omega
  · intro k o hko hL
    have := (List.getElem?_eq_some_iff.1 hko).1
    simp [IsL, this] at hL
  · intro j _ hj hL
    simp [IsL, hj] at hL
  · intro j hj hL
    have hjl : j < l.length := by have := H.lt j hj; have := H.le; omega
    simp [IsL, hjl] at hL
  · refine ⟨rf.size, fun t => ?_, rf.defers⟩
    unfold mix
    split
    · simp only [Rep]
    · rename_i hb
      have hft : F1 t = f t := by
        refine hbase t fun o ho hd => hb ?_
        obtain ⟨j, hj⟩ := List.mem_iff_getElem?.1 ho
        obtain ⟨h1, h2, h3⟩ := hgm j o hj
        refine blocked_iff.2 ⟨_, o, h1, h2, hd, ?_⟩
        have := (List.getElem?_eq_some_iff.1 h2).1
        simp [this]
      rw [hft]
      exact Rep.ext (es := some es) (es' := some es) _ x0 (rf.rep t)
end
end
section
open Go.RowKit
/-! ### regions that draw: the walk's rules for mains in open order -/
section
variable {P : Program} {w0 : World} {N : Nat}
theorem w_drawnT {id : Nat} {l : List Oper} {f : Frame} {es : List Ent} {K : Exit → Frame → List Ent → Prop} (m : Nat) (ms : List Nat) (G : List Ent → Prop) (hm : P.follows .mixedOrders = true) (hq : (drawOkT l m ms && l.all fun o => dok N o.dst) = true) (hG : G es)
  (h : QList P w0 N G l.toArray (quietsFrom ms (l.take m) 0) f fun F => MTree P w0 N G l ms.length ms F es fun F' es' => AList P w0 N l.toArray (l.drop m) F' es' (K .normal)) : AWp P w0 N (.region id l.toArray true) f es K := by
 rw [Bool.and_eq_true, List.all_eq_true] at hq
 exact w_drawT m ms G hm hq.1 hG hq.2 h
variable {G : List Ent → Prop} {l : List Oper} {F : Frame} {es : List Ent} {k : Frame → List Ent → Prop} {n : Nat} {rem : List Nat}
theorem t_end (h : k F es) : MTree P w0 N G l 0 rem F es k := h
theorem t_one (i : Nat) (rem' : List Nat) {o : Oper} (hr : readyM (far l []) rem = [i]) (hi : l[i]? = some o) (he : rem.erase i = rem') (h : MList P w0 N G [o] F es fun F' es' => MTree P w0 N G l n rem' F' es' k) : MTree P w0 N G l (n + 1) rem F es k := by
 simp only [MTree]
 intro j hj o' ho'
 rw [hr, List.mem_singleton] at hj
 subst hj
 rw [hi] at ho'
 injection ho' with ho'
 subst ho'
 rw [he]
 exact h
theorem t_two (i j : Nat) (r1 r2 : List Nat) {o1 o2 : Oper} (hr : readyM (far l []) rem = [i, j]) (h1 : l[i]? = some o1) (h2 : l[j]? = some o2) (e1 : rem.erase i = r1) (e2 : rem.erase j = r2)
  (k1 : MList P w0 N G [o1] F es fun F' es' => MTree P w0 N G l n r1 F' es' k) (k2 : MList P w0 N G [o2] F es fun F' es' => MTree P w0 N G l n r2 F' es' k) : MTree P w0 N G l (n + 1) rem F es k := by
 simp only [MTree]
 intro x hx o' ho'
 rw [hr] at hx
 simp only [List.mem_cons, List.not_mem_nil, or_false] at hx
 rcases hx with rfl | rfl
 ·rw [h1] at ho'
  injection ho' with ho'
  subst ho'
  rw [e1]
  exact k1
 ·rw [h2] at ho'
  injection ho' with ho'
  subst ho'
  rw [e2]
  exact k2
end
end
section
/-! ### the step of an expression by a byte -/
def stepC (f : Rx → Int → Rx) (l : List Rx) (c : Int) : Rx :=
 match l with
 | [] => noneR
 | a :: t => if a.null = true then altR [catR [f a c, catR t], f (catR t) c] else catR [f a c, catR t]
def stepS (f : Rx → Int → Rx) (r : Rx) (c : Int) : Rx :=
 match r.args with
 | [] => noneR
 | a :: _ => catR [f a c, r]
def stepX : Nat → Rx → Int → Rx
 | 0, _, _ => noneR
 | n + 1, r, c =>
  if r.kind = 3 then (if r.set.hasI c = true then emptyR else noneR)
  else if r.kind = 5 then altR (r.args.map fun a => stepX n a c)
  else if r.kind = 6 then stepS (stepX n) r c
  else if r.kind = 4 then stepC (stepX n) r.args c
  else noneR
theorem stepX_3 {n : Nat} {r : Rx} {c : Int} (h : r.kind = 3) : stepX (n + 1) r c = if r.set.hasI c = true then emptyR else noneR := by rw [stepX, if_pos h]
theorem stepX_5 {n : Nat} {r : Rx} {c : Int} (h : r.kind = 5) : stepX (n + 1) r c = altR (r.args.map fun a => stepX n a c) := by rw [stepX, if_neg (by omega), if_pos h]
theorem stepX_6 {n : Nat} {r : Rx} {c : Int} (h : r.kind = 6) : stepX (n + 1) r c = stepS (stepX n) r c := by rw [stepX, if_neg (by omega), if_neg (by omega), if_pos h]
theorem stepX_4 {n : Nat} {r : Rx} {c : Int} (h : r.kind = 4) : stepX (n + 1) r c = stepC (stepX n) r.args c := by rw [stepX, if_neg (by omega), if_neg (by omega), if_neg (by omega), if_pos h]
theorem stepX_no {n : Nat} {r : Rx} {c : Int} (h : ¬ r.kind = 3 ∧ ¬ r.kind = 5 ∧ ¬ r.kind = 6 ∧ ¬ r.kind = 4) : stepX (n + 1) r c = noneR := by rw [stepX, if_neg h.1, if_neg h.2.1, if_neg h.2.2.1, if_neg h.2.2.2]
theorem stepC_nil {f : Rx → Int → Rx} {l : List Rx} {c : Int} (h : l.length = 0) : stepC f l c = noneR := by
 cases l with
 | nil => rfl
 | cons a t => simp at h
theorem stepC_yes {f : Rx → Int → Rx} {l : List Rx} {c : Int} (h : 0 < l.length) (hn : (l[0]).null = true) : stepC f l c = altR [catR [f l[0] c, catR (l.drop 1)], f (catR (l.drop 1)) c] := by
 cases l with
 | nil => simp at h
 | cons a t => unfold stepC; exact if_pos hn
theorem stepC_no {f : Rx → Int → Rx} {l : List Rx} {c : Int} (h : 0 < l.length) (hn : ¬ (l[0]).null = true) : stepC f l c = catR [f l[0] c, catR (l.drop 1)] := by
 cases l with
 | nil => simp at h
 | cons a t => unfold stepC; exact if_neg hn
theorem stepS_one {f : Rx → Int → Rx} {r : Rx} {c : Int} (h : 0 < r.args.length) : stepS f r c = catR [f r.args[0] c, r] := by
 unfold stepS
 split
 ·rename_i e; simp [e] at h
 ·rename_i a t e
  simp [e]
theorem plain_star {r : Rx} (h : r.plain = true) (hk : r.kind = 6) : r.args.length = 1 ∧ ∀ a ∈ r.args, a.kind ∉ [(6 : Int), 1, 2] := by
 have h1 := plain_right h
 unfold right at h1
 rw [hk] at h1
 simp only [show ¬((6 : Int) = 1 ∨ (6 : Int) = 2) by omega, show ¬((6 : Int) = 3) by omega, show ¬((6 : Int) = 4) by omega, show ¬((6 : Int) = 5) by omega, if_false, if_true, Bool.and_eq_true, decide_eq_true_eq, notIn_iff] at h1
 exact ⟨h1.1.2, h1.2⟩
theorem sq_add (a b : Nat) : (a + b) * (a + b) = a * a + 2 * (a * b) + b * b := by
 rw [Nat.add_mul, Nat.mul_add, Nat.mul_add, Nat.mul_comm b a]; omega
theorem nodesL_sq {f : Rx → Rx} : ∀ l : List Rx, (∀ a ∈ l, (f a).nodes ≤ 4 * (a.nodes * a.nodes)) → Rx.nodesL (l.map f) ≤ 4 * (Rx.nodesL l * Rx.nodesL l)
 | [], _ => by simp [Rx.nodesL]
 | a :: t, h => by
  have h1 := h a (by simp)
  have h2 := nodesL_sq t (fun a ha => h a (List.mem_cons_of_mem _ ha))
  simp only [List.map_cons, Rx.nodesL]
  rw [sq_add]
  omega
theorem none_good (c : Nat) : noneR.ok ∧ noneR.plain = true ∧ noneR.nodes ≤ 4 * (1 * 1) := by
 refine ⟨?_, plain_none, ?_⟩
 ·simp [noneR, Rx.ok, Rx.oks, noSet_ok]
 ·simp [noneR, Rx.nodes, Rx.nodesL]
theorem empty_good : emptyR.ok ∧ emptyR.plain = true ∧ emptyR.nodes ≤ 4 * (1 * 1) := by
 refine ⟨?_, plain_empty, ?_⟩
 ·simp [emptyR, Rx.ok, Rx.oks, noSet_ok]
 ·simp [emptyR, Rx.nodes, Rx.nodesL]
/-- What a step is: well made, plain, of bounded size. -/
def Good (r : Rx) (x : Rx) : Prop := x.ok ∧ x.plain = true ∧ x.nodes ≤ 4 * (r.nodes * r.nodes)
theorem Good.small {r x : Rx} (h : x.ok ∧ x.plain = true ∧ x.nodes ≤ 4 * (1 * 1)) : Good r x :=
 ⟨h.1, h.2.1, Nat.le_trans h.2.2 (Nat.mul_le_mul_left 4 (Nat.mul_le_mul r.nodes_pos r.nodes_pos))⟩
theorem pair_ok {a b : Rx} (ha : a.ok) (hb : b.ok) : ∀ x ∈ [a, b], x.ok := by
 intro x hx
 simp only [List.mem_cons, List.not_mem_nil, or_false] at hx
 rcases hx with rfl | rfl <;> assumption
theorem pair_plain {a b : Rx} (ha : a.plain = true) (hb : b.plain = true) : Rx.plainL [a, b] = true := by
 rw [Rx.plainL_iff]
 intro x hx
 simp only [List.mem_cons, List.not_mem_nil, or_false] at hx
 rcases hx with rfl | rfl <;> assumption
theorem pair_nodes (a b : Rx) : Rx.nodesL [a, b] = a.nodes + b.nodes := by simp [Rx.nodesL]
theorem drop_ok {l : List Rx} (h : ∀ x ∈ l, x.ok) (k : Nat) : ∀ x ∈ l.drop k, x.ok := fun x hx => h x (List.mem_of_mem_drop hx)
theorem drop_plain {l : List Rx} (h : ∀ x ∈ l, x.plain = true) (k : Nat) : Rx.plainL (l.drop k) = true := (Rx.plainL_iff _).2 fun x hx => h x (List.mem_of_mem_drop hx)
theorem drop1_nodes {l : List Rx} (h : 0 < l.length) : Rx.nodesL l = (l[0]).nodes + Rx.nodesL (l.drop 1) := by
 cases l with
 | nil => simp at h
 | cons a t => simp [Rx.nodesL]
/-- Of a chain's step: each part that is stepped is no larger than the whole. -/
theorem cat_parts {l : List Rx} (h : 0 < l.length) (ho : ∀ x ∈ l, x.ok) (hp : ∀ x ∈ l, x.plain = true) : (catR (l.drop 1)).ok ∧ (catR (l.drop 1)).plain = true ∧ (catR (l.drop 1)).nodes ≤ 1 + Rx.nodesL (l.drop 1) :=
 ⟨catR_ok (drop_ok ho 1), catR_plain (drop_plain hp 1), catR_nodes _⟩
theorem stepC_good {f : Rx → Int → Rx} {c : Int} {l : List Rx} {r : Rx} (ho : ∀ x ∈ l, x.ok) (hp : ∀ x ∈ l, x.plain = true) (hr : r.nodes = 1 + Rx.nodesL l)
  (ih : ∀ x : Rx, x.nodes ≤ Rx.nodesL l → x.ok → x.plain = true → Good x (f x c)) : Good r (stepC f l c) := by
 by_cases h0 : l.length = 0
 ·rw [stepC_nil h0]; exact Good.small (none_good 0)
 have hl : 0 < l.length := by omega
 have hnd := drop1_nodes hl
 obtain ⟨q1, q2, q3⟩ := cat_parts hl ho hp
 have ha := ih l[0] (by omega) (ho _ (List.getElem_mem _)) (hp _ (List.getElem_mem _))
 have hq := ih (catR (l.drop 1)) (by have := (l[0]).nodes_pos; omega) q1 q2
 obtain ⟨a1, a2, a3⟩ := ha
 obtain ⟨b1, b2, b3⟩ := hq
 have hap := (l[0]).nodes_pos
 have d1 := catR_ok (pair_ok a1 q1)
 have d2 := catR_plain (pair_plain a2 q2)
 have d3 := catR_nodes [f l[0] c, catR (l.drop 1)]
 rw [pair_nodes] at d3
 have e : r.nodes = (l[0]).nodes + (1 + Rx.nodesL (l.drop 1)) := by omega
 have hm : 1 + Rx.nodesL (l.drop 1) ≤ (l[0]).nodes * (1 + Rx.nodesL (l.drop 1)) := Nat.le_mul_of_pos_left _ hap
 have hb : (catR (l.drop 1)).nodes * (catR (l.drop 1)).nodes ≤ (1 + Rx.nodesL (l.drop 1)) * (1 + Rx.nodesL (l.drop 1)) := Nat.mul_le_mul q3 q3
 have hsq : 1 + Rx.nodesL (l.drop 1) ≤ (1 + Rx.nodesL (l.drop 1)) * (1 + Rx.nodesL (l.drop 1)) := Nat.le_mul_of_pos_left _ (by omega)
 by_cases hn : (l[0]).null = true
 ·rw [stepC_yes hl hn]
  refine ⟨altR_ok (pair_ok d1 b1), altR_plain ((Rx.tidyL_iff _).2 fun x hx => ?_) (pair_plain d2 b2), ?_⟩
  ·exact Rx.plain_tidy x (pair_ok d1 b1 x hx) ((Rx.plainL_iff _).1 (pair_plain d2 b2) x hx)
  ·have d4 := altR_nodes [catR [f l[0] c, catR (l.drop 1)], f (catR (l.drop 1)) c]
   rw [pair_nodes] at d4
   rw [e, sq_add]
   omega
 ·rw [stepC_no hl hn]
  refine ⟨d1, d2, ?_⟩
  rw [e, sq_add]
  omega
theorem stepX_good : ∀ (n : Nat) (r : Rx) (c : Int), r.nodes ≤ n → r.ok → r.plain = true → Good r (stepX n r c)
 | 0, r, c, h, _, _ => by have := r.nodes_pos; omega
 | n + 1, r, c, h, ho, hp => by
  have hne := r.nodes_eq
  have ih : ∀ x : Rx, x.nodes ≤ Rx.nodesL r.args → x.ok → x.plain = true → Good x (stepX n x c) := fun x h1 h2 h3 => stepX_good n x c (by omega) h2 h3
  by_cases h3 : r.kind = 3
  ·rw [stepX_3 h3]
   split
   ·exact Good.small empty_good
   ·exact Good.small (none_good 0)
  by_cases h5 : r.kind = 5
  ·rw [stepX_5 h5]
   have hx : ∀ a ∈ r.args, Good a (stepX n a c) := fun a ha => ih a (by have := nodes_mem_lt ha; omega) (ho.args a ha) (plain_args hp a ha)
   have g1 : ∀ x ∈ r.args.map fun a => stepX n a c, x.ok ∧ x.plain = true := by
    intro x hx'
    obtain ⟨a, ha, rfl⟩ := List.mem_map.1 hx'
    exact ⟨(hx a ha).1, (hx a ha).2.1⟩
   refine ⟨altR_ok fun x h => (g1 x h).1, altR_plain ((Rx.tidyL_iff _).2 fun x h => Rx.plain_tidy x (g1 x h).1 (g1 x h).2) ((Rx.plainL_iff _).2 fun x h => (g1 x h).2), ?_⟩
   have d := altR_nodes (r.args.map fun a => stepX n a c)
   have d2 := nodesL_sq (f := fun a => stepX n a c) r.args (fun a ha => (hx a ha).2.2)
   rw [hne, sq_add]
   omega
  by_cases h6 : r.kind = 6
  ·rw [stepX_6 h6]
   obtain ⟨h1, _⟩ := plain_star hp h6
   rw [stepS_one (by omega)]
   have hx := ih r.args[0] (by have := nodes_mem_lt (r := r) (List.getElem_mem (l := r.args) (n := 0) (by omega)); omega) (ho.args _ (List.getElem_mem _)) (plain_args hp _ (List.getElem_mem _))
   obtain ⟨a1, a2, a3⟩ := hx
   refine ⟨catR_ok (pair_ok a1 ho), catR_plain (pair_plain a2 hp), ?_⟩
   have d := catR_nodes [stepX n r.args[0] c, r]
   rw [pair_nodes] at d
   have e : r.nodes = 1 + (r.args[0]).nodes := by
    have := drop1_nodes (l := r.args) (by omega)
    have e2 : r.args.drop 1 = [] := List.drop_of_length_le (by omega)
    rw [e2] at this
    simp only [Rx.nodesL] at this
    omega
   rw [e, sq_add]
   rw [e] at d
   omega
  by_cases h4 : r.kind = 4
  ·rw [stepX_4 h4]
   exact stepC_good ho.args (plain_args hp) hne ih
  ·rw [stepX_no ⟨h3, h5, h6, h4⟩]
   exact Good.small (none_good 0)
end
set_option maxRecDepth 8000
section
open Go.RowKit Go.Proofs
theorem step_small {r x : Rx} (h : x.nodes ≤ 4 * (r.nodes * r.nodes)) (hr : r.nodes ≤ 500) : x.nodes ≤ 1000000 := by
 have := Nat.mul_le_mul hr hr
 omega
theorem step_pair {a b x y : Rx} (h : x.nodes ≤ 4 * (a.nodes * a.nodes)) (h2 : y.nodes ≤ 4 * (b.nodes * b.nodes)) (hr : a.nodes + b.nodes ≤ 501) : x.nodes + y.nodes ≤ 1004004 := by
 have := Nat.mul_le_mul hr hr
 rw [sq_add] at this
 omega
theorem stepCat_walk {w0 : World} (hT : Tab w0) {c : Int} (hc : 0 ≤ c ∧ c < 256) {B : Nat} (hB : B ≤ 500) (ih : ∀ (r : Rx) (es : List Ent), r.nodes ≤ B → r.ok → r.plain = true → ACalls Tryd.prog w0 65 [.agg r.cells, .int .u8 c] es fun v es' => v = .agg (stepX B r c).cells ∧ es' = es) {es : List Ent} (l : List Rx) (hl : Rx.nodesL l ≤ B) (ho : ∀ x ∈ l, x.ok) (hp : ∀ x ∈ l, x.plain = true) : ACalls Tryd.prog w0 104 [.list 6 (l.map Rx.cells), .int .u8 c] es fun v es' => v = .agg (stepC (stepX B) l c).cells ∧ es' = es := by
 have hal := Rx.len_le l
 have hd1 : ((l.map Rx.cells).take (l.map Rx.cells).length).drop 1 = (l.drop 1).map Rx.cells := by rw [List.take_length, List.map_drop]
 refine calls2 (N := 34) Tryd.func104 rfl rfl (by decide) ?_
 refine w_seq ?_
 refine w_region ?_
 refine l_cons rfl (p_alloc ze_29 fun s4 => ?_)
 refine l_nil ?_
 refine k_seq_normal ?_
 refine w_seq ?_
 refine w_seq ?_
 refine w_region ?_
 refine l_cons rfl (p_move ?_)
 refine l_cons rfl (p_lenl sl_27 ?_)
 refine l_cons rfl (p_cmp ?_)
 refine l_nil ?_
 refine k_seq_normal ?_
 refine w_b (fun h1 => ?_) (fun h1 => ?_)
 ·skip
  have h1' := h1; (try simp only [bb] at h1')
  refine w_seq ?_
  refine w_region ?_
  refine l_cons rfl (p_callr en_105 (rxNone) ?_)
  refine l_cons rfl (p_store ty_29 ?_)
  refine l_nil ?_
  refine k_seq_normal ?_
  refine w_ret ?_
  refine k_seq_ret ?_
  rw [← stepC_nil (f := stepX B) (c := c) (l := l) (by omega)]
  exact retc rfl ty_29 subx ⟨rfl, rfl⟩
 ·skip
  have h1' := h1; (try simp only [bb] at h1')
  refine w_skip ?_
  refine k_seq_normal ?_
  refine w_seq ?_
  have hl0 : 0 < l.length := by omega
  have hnd := drop1_nodes hl0
  have hl0p := (l[0]'(by omega)).nodes_pos
  obtain ⟨u1, u2, u3⟩ := cat_parts hl0 ho hp
  have hqn : (catR (l.drop 1)).nodes ≤ B := by omega
  obtain ⟨a1, a2, a3⟩ := stepX_good B (l[0]'(by omega)) c (by omega) (ho _ (List.getElem_mem _)) (hp _ (List.getElem_mem _))
  obtain ⟨b1, b2, b3⟩ := stepX_good B (catR (l.drop 1)) c hqn u1 u2
  have a4 := step_small a3 (show (l[0]'(by omega)).nodes ≤ 500 by omega)
  have b4 := step_small b3 (show (catR (l.drop 1)).nodes ≤ 500 by omega)
  have ab4 := step_pair a3 b3 (by omega)
  have d1 := catR_ok (pair_ok a1 u1)
  have d2 := catR_plain (pair_plain a2 u2)
  have d3 := catR_nodes [(stepX B (l[0]'(by omega)) c), (catR (l.drop 1))]
  rw [pair_nodes] at d3
  refine w_region ?_
  refine l_cons rfl (p_move ?_)
  refine l_cons rfl (p_slicel (l := 1) (h := _) sl_27 ?_ (hlh := by simp only [List.length_map]; omega))
  rw [hd1]
  refine l_cons rfl (p_callr en_103 (rxCat (l.drop 1) (by omega)) ?_)
  refine l_cons rfl (p_alloc ze_29 fun s5 => ?_)
  refine l_cons rfl (p_store ty_29 ?_)
  refine l_nil ?_
  refine k_seq_normal ?_
  refine w_cut (fun f es' => ∃ s6, Sub (.row s6 29 6 [(catR [(stepX B (l[0]'(by omega)) c), (catR (l.drop 1))]).cells] :: .row s5 29 6 [(catR (l.drop 1)).cells] :: .row s4 29 6 [[.int .i64 0, .int .u64 0, .int .u64 0, .int .u64 0, .int .u64 0, .nil]] :: es) es' ∧ Knows f [(0, .list 6 (l.map Rx.cells)), (1, .int .u8 c), (4, .ptr es.length s4 0 0), (5, .ptr (es.length + 1) s5 0 0), (6, .ptr (es.length + 2) s6 0 0)]) ?_ ?_
  ·skip
   refine w_drawnT 9 [4, 6, 7, 8] (fun e => at_ e (es.length + 1) = some (.row s5 29 6 [(catR (l.drop 1)).cells])) mixed (by kernel_rfl) (at_hit _ _) ?_
   refine q1 0 (hg := rfl) (hu := rfl) (h := by rintro f _ hG; exact p_move ⟨rfl, rfl⟩) (k := ?_)
   refine q1 14 (hg := rfl) (hu := rfl) (h := by rintro f _ hG; exact p_ixl sl_27 (a := .fptr 6 (l.map Rx.cells) 0 0) ⟨rfl, rfl⟩ (h0 := by omega) (h1 := by simp only [List.length_map]; omega) (ho := rfl)) (k := ?_)
   refine q1 15 (hg := rfl) (hu := rfl) (h := by rintro f _ hG; exact p_loadf ty_29 (a := .agg (l[0]'(by omega)).cells) ⟨rfl, rfl⟩ (hr := rxrow_at (l := l) (k := 0) (by omega)) (hl := Nat.le_refl 6) (ha := rfl)) (k := ?_)
   refine q1 1 (hg := rfl) (hu := rfl) (h := by rintro f _ hG; exact p_move ⟨rfl, rfl⟩) (k := ?_)
   refine q1 5 (hg := rfl) (hu := rfl) (h := by rintro f _ hG; exact p_loadp ty_29 (a := .agg (catR (l.drop 1)).cells) ⟨rfl, rfl⟩ (he := ⟨hG, fun _ => rfl⟩) (hr := rfl) (hl := Nat.le_refl 6) (ha := rfl)) (k := ?_)
   refine q_end ?_
   refine t_two 4 8 [6, 7, 8] [4, 6, 7] (by kernel_rfl) rfl rfl rfl rfl ?_ ?_
   ·skip
    refine m2 16 17 (hu := rfl) (h := fun f => p_callr en_65 (ih (l[0]'(by omega)) _ (by omega) (ho _ (List.getElem_mem _)) (hp _ (List.getElem_mem _))) ?_)
    refine ⟨_, rfl, (by first | exact at_hit _ _ | exact at_miss _ (at_hit _ _) | exact at_miss _ (at_miss _ (at_hit _ _))), ?_⟩
    refine m_end ?_
    refine t_two 6 8 [7, 8] [6, 7] (by kernel_rfl) rfl rfl rfl rfl ?_ ?_
    ·skip
     refine m2 18 19 (hu := rfl) (h := fun f => p_buildList sl_27 ze_29 (rows := [(stepX B (l[0]'(by omega)) c).cells, (catR (l.drop 1)).cells]) ?_ (hr := rfl))
     refine ⟨_, rfl, (by first | exact at_hit _ _ | exact at_miss _ (at_hit _ _) | exact at_miss _ (at_miss _ (at_hit _ _))), ?_⟩
     refine m_end ?_
     refine t_two 7 8 [8] [7] (by kernel_rfl) rfl rfl rfl rfl ?_ ?_
     ·skip
      refine m1 20 (hu := rfl) (h := fun f => p_callr en_103 (rxCat [(stepX B (l[0]'(by omega)) c), (catR (l.drop 1))] (by rw [pair_nodes]; omega)) ?_)
      refine ⟨_, rfl, (by first | exact at_hit _ _ | exact at_miss _ (at_hit _ _) | exact at_miss _ (at_miss _ (at_hit _ _))), ?_⟩
      refine m_end ?_
      refine t_one 8 [] (by kernel_rfl) rfl rfl ?_
      refine m0  (hu := rfl) (h := fun f => p_alloc ze_29 fun s6 => ?_)
      refine ⟨_, rfl, (by first | exact at_hit _ _ | exact at_miss _ (at_hit _ _) | exact at_miss _ (at_miss _ (at_hit _ _))), ?_⟩
      refine m_end ?_
      refine t_end ?_
      refine l_cons rfl (p_store ty_29 ?_)
      refine l_nil ?_
      refine k_seq_normal ?_
      exact ⟨s6, Sub.refl _, kn⟩
     ·skip
      refine m0  (hu := rfl) (h := fun f => p_alloc ze_29 fun s6 => ?_)
      refine ⟨_, rfl, (by first | exact at_hit _ _ | exact at_miss _ (at_hit _ _) | exact at_miss _ (at_miss _ (at_hit _ _))), ?_⟩
      refine m_end ?_
      refine t_one 7 [] (by kernel_rfl) rfl rfl ?_
      refine m1 20 (hu := rfl) (h := fun f => p_callr en_103 (rxCat [(stepX B (l[0]'(by omega)) c), (catR (l.drop 1))] (by rw [pair_nodes]; omega)) ?_)
      refine ⟨_, rfl, (by first | exact at_hit _ _ | exact at_miss _ (at_hit _ _) | exact at_miss _ (at_miss _ (at_hit _ _))), ?_⟩
      refine m_end ?_
      refine t_end ?_
      refine l_cons rfl (p_store ty_29 ?_)
      refine l_nil ?_
      refine k_seq_normal ?_
      exact ⟨s6, Sub.refl _, kn⟩
    ·skip
     refine m0  (hu := rfl) (h := fun f => p_alloc ze_29 fun s6 => ?_)
     refine ⟨_, rfl, (by first | exact at_hit _ _ | exact at_miss _ (at_hit _ _) | exact at_miss _ (at_miss _ (at_hit _ _))), ?_⟩
     refine m_end ?_
     refine t_one 6 [7] (by kernel_rfl) rfl rfl ?_
     refine m2 18 19 (hu := rfl) (h := fun f => p_buildList sl_27 ze_29 (rows := [(stepX B (l[0]'(by omega)) c).cells, (catR (l.drop 1)).cells]) ?_ (hr := rfl))
     refine ⟨_, rfl, (by first | exact at_hit _ _ | exact at_miss _ (at_hit _ _) | exact at_miss _ (at_miss _ (at_hit _ _))), ?_⟩
     refine m_end ?_
     refine t_one 7 [] (by kernel_rfl) rfl rfl ?_
     refine m1 20 (hu := rfl) (h := fun f => p_callr en_103 (rxCat [(stepX B (l[0]'(by omega)) c), (catR (l.drop 1))] (by rw [pair_nodes]; omega)) ?_)
     refine ⟨_, rfl, (by first | exact at_hit _ _ | exact at_miss _ (at_hit _ _) | exact at_miss _ (at_miss _ (at_hit _ _))), ?_⟩
     refine m_end ?_
     refine t_end ?_
     refine l_cons rfl (p_store ty_29 ?_)
     refine l_nil ?_
     refine k_seq_normal ?_
     exact ⟨s6, Sub.refl _, kn⟩
   ·skip
    refine m0  (hu := rfl) (h := fun f => p_alloc ze_29 fun s6 => ?_)
    refine ⟨_, rfl, (by first | exact at_hit _ _ | exact at_miss _ (at_hit _ _) | exact at_miss _ (at_miss _ (at_hit _ _))), ?_⟩
    refine m_end ?_
    refine t_one 4 [6, 7] (by kernel_rfl) rfl rfl ?_
    refine m2 16 17 (hu := rfl) (h := fun f => p_callr en_65 (ih (l[0]'(by omega)) _ (by omega) (ho _ (List.getElem_mem _)) (hp _ (List.getElem_mem _))) ?_)
    refine ⟨_, rfl, (by first | exact at_hit _ _ | exact at_miss _ (at_hit _ _) | exact at_miss _ (at_miss _ (at_hit _ _))), ?_⟩
    refine m_end ?_
    refine t_one 6 [7] (by kernel_rfl) rfl rfl ?_
    refine m2 18 19 (hu := rfl) (h := fun f => p_buildList sl_27 ze_29 (rows := [(stepX B (l[0]'(by omega)) c).cells, (catR (l.drop 1)).cells]) ?_ (hr := rfl))
    refine ⟨_, rfl, (by first | exact at_hit _ _ | exact at_miss _ (at_hit _ _) | exact at_miss _ (at_miss _ (at_hit _ _))), ?_⟩
    refine m_end ?_
    refine t_one 7 [] (by kernel_rfl) rfl rfl ?_
    refine m1 20 (hu := rfl) (h := fun f => p_callr en_103 (rxCat [(stepX B (l[0]'(by omega)) c), (catR (l.drop 1))] (by rw [pair_nodes]; omega)) ?_)
    refine ⟨_, rfl, (by first | exact at_hit _ _ | exact at_miss _ (at_hit _ _) | exact at_miss _ (at_miss _ (at_hit _ _))), ?_⟩
    refine m_end ?_
    refine t_end ?_
    refine l_cons rfl (p_store ty_29 ?_)
    refine l_nil ?_
    refine k_seq_normal ?_
    exact ⟨s6, Sub.refl _, kn⟩
  ·skip
   rintro f es' ⟨s6, hsub, hk⟩
   refine w_pins _ hsub (hk) ?_
   simp only [pins]
   refine w_seq ?_
   refine w_seq ?_
   refine w_region ?_
   refine l_cons rfl (p_move ?_)
   refine l_cons rfl (p_ixl sl_27 (a := .fptr 6 (l.map Rx.cells) 0 0) ?_ (h0 := by omega) (h1 := by simp only [List.length_map]; omega) (ho := rfl))
   refine l_cons rfl (p_loadf ty_29 (a := .agg (l[0]'(by omega)).cells) ?_ (hr := rxrow_at (l := l) (k := 0) (by omega)) (hl := Nat.le_refl 6) (ha := rfl))
   refine l_cons rfl (p_callr en_59 (Null_walk _ (l[0]'(by omega)) _ (Nat.le_refl _) (by omega)) ?_)
   refine l_cons rfl (p_not ?_)
   refine l_nil ?_
   refine k_seq_normal ?_
   refine w_b (fun h2 => ?_) (fun h2 => ?_)
   ·skip
    have h2' := h2; (try simp only [bb] at h2')
    refine w_seq ?_
    refine w_region ?_
    refine l_cons rfl (p_loadp ty_29 ?_)
    refine l_cons rfl (p_store ty_29 ?_)
    refine l_nil ?_
    refine k_seq_normal ?_
    refine w_ret ?_
    refine k_seq_ret ?_
    rw [← stepC_no (f := stepX B) (c := c) hl0 (by simpa using h2')]
    exact retc rfl ty_29 subx ⟨rfl, rfl⟩
   ·skip
    have h2' := h2; (try simp only [bb] at h2')
    refine w_skip ?_
    refine k_seq_normal ?_
    refine w_seq ?_
    refine w_drawn 4 [3] (fun e => at_ e (es.length + 1) = some (.row s5 29 6 [(catR (l.drop 1)).cells]) ∧ at_ e (es.length + 2) = some (.row s6 29 6 [(catR [(stepX B (l[0]'(by omega)) c), (catR (l.drop 1))]).cells])) mixed (by kernel_rfl) ⟨at_miss _ (at_hit _ _), at_hit _ _⟩ ?_
    refine q1 6 (hg := rfl) (hu := rfl) (h := by rintro f _ hG; exact p_loadp ty_29 (a := .agg (catR [(stepX B (l[0]'(by omega)) c), (catR (l.drop 1))]).cells) ⟨rfl, rfl⟩ (he := ⟨hG.2, fun _ => rfl⟩) (hr := rfl) (hl := Nat.le_refl 6) (ha := rfl)) (k := ?_)
    refine q1 5 (hg := rfl) (hu := rfl) (h := by rintro f _ hG; exact p_loadp ty_29 (a := .agg (catR (l.drop 1)).cells) ⟨rfl, rfl⟩ (he := ⟨hG.1, fun _ => rfl⟩) (hr := rfl) (hl := Nat.le_refl 6) (ha := rfl)) (k := ?_)
    refine q1 1 (hg := rfl) (hu := rfl) (h := by rintro f _ hG; exact p_move ⟨rfl, rfl⟩) (k := ?_)
    refine q_end ?_
    refine m2 29 30 (hu := rfl) (h := fun f => p_callr en_65 (ih (catR (l.drop 1)) _ hqn u1 u2) ?_)
    refine ⟨_, rfl, ⟨at_miss _ (at_hit _ _), at_hit _ _⟩, ?_⟩
    refine m_end ?_
    refine l_cons rfl (p_buildList sl_27 ze_29 (rows := [(catR [(stepX B (l[0]'(by omega)) c), (catR (l.drop 1))]).cells, (stepX B (catR (l.drop 1)) c).cells]) ?_ (hr := rfl))
    refine l_cons rfl (p_callr en_102 (rxAlt hT [(catR [(stepX B (l[0]'(by omega)) c), (catR (l.drop 1))]), stepX B (catR (l.drop 1)) c] (fun r hr => ⟨pair_ok d1 b1 r hr, Rx.plain_tidy r (pair_ok d1 b1 r hr) ((Rx.plainL_iff _).1 (pair_plain d2 b2) r hr)⟩) (by rw [pair_nodes]; omega)) ?_)
    refine l_cons rfl (p_store ty_29 ?_)
    refine l_nil ?_
    refine k_seq_normal ?_
    refine w_ret ?_
    rw [← stepC_yes (f := stepX B) (c := c) hl0 (by simpa using h2')]
    exact retc rfl ty_29 subx ⟨rfl, rfl⟩
theorem rxStep {w0 : World} (hT : Tab w0) {c : Int} (hc : 0 ≤ c ∧ c < 256) : ∀ (B : Nat) (r : Rx) (es : List Ent), r.nodes ≤ B → B ≤ 500 → r.ok → r.plain = true → ACalls Tryd.prog w0 65 [.agg r.cells, .int .u8 c] es fun v es' => v = .agg (stepX B r c).cells ∧ es' = es := by
  intro B
  induction B using Nat.strongRecOn with
  | _ B ih0 => ?_
  intro r es hB hB2 ho hp
  obtain ⟨B, rfl⟩ : ∃ q, B = q + 1 := ⟨B - 1, by have := r.nodes_pos; omega⟩
  have ih := fun r es h1 => ih0 B (Nat.lt_succ_self B) r es h1 (by omega)
  rw [Rx.cells_eq r]
  have hne := r.nodes_eq
  have hal := Rx.len_le r.args
  have hsg : ∀ a ∈ r.args, Good a (stepX B a c) := fun a ha => stepX_good B a c (by have := nodes_mem_lt ha; omega) (ho.args a ha) (plain_args hp a ha)
  refine calls2 (N := 57) Tryd.func65 rfl rfl (by decide) ?_
  refine w_seq ?_
  refine w_region ?_
  refine l_cons rfl (p_box fun s2 => ?_)
  refine l_cons rfl (p_alloc ze_29 fun s4 => ?_)
  refine l_nil ?_
  refine k_seq_normal ?_
  refine w_seq ?_
  refine w_seq ?_
  refine w_region ?_
  refine l_cons rfl (p_fap fa_29_0 ?_)
  refine l_cons rfl (p_loadp ty_3 ?_)
  refine l_nil ?_
  refine k_seq_normal ?_
  refine w_block ?_
  refine w_seq ?_
  refine w_region ?_
  refine l_cons rfl (p_cmp ?_)
  refine l_cons rfl (p_assign ?_)
  refine l_nil ?_
  refine k_seq_normal ?_
  refine w_b (fun h1 => ?_) (fun h1 => ?_)
  · skip
    have h1' := h1; (try simp only [bb] at h1')
    refine w_seq ?_
    refine w_region ?_
    refine l_cons rfl (p_fap fa_29_1 ?_)
    refine l_cons rfl (p_loadp ty_26 ?_)
    refine l_cons rfl (p_move ?_)
    refine l_cons rfl (p_callr en_100 (bytesetHas r.set.w0 r.set.w1 r.set.w2 r.set.w3 c hc.1 hc.2) ?_)
    refine l_nil ?_
    refine k_seq_normal ?_
    refine w_b (fun h2 => ?_) (fun h2 => ?_)
    · skip
      have h2' := h2; (try simp only [bb] at h2')
      refine w_seq ?_
      refine w_region ?_
      refine l_cons rfl (p_callr en_101 (rxEmpty) ?_)
      refine l_cons rfl (p_store ty_29 ?_)
      refine l_nil ?_
      refine k_seq_normal ?_
      refine w_ret ?_
      refine k_blk_ret ?_
      refine k_seq_ret ?_
      rw [stepX_3 (by omega), if_pos (by exact h2')]
      exact retc rfl ty_29 subx ⟨rfl, rfl⟩
    · skip
      have h2' := h2; (try simp only [bb] at h2')
      refine w_skip ?_
      refine k_blk_normal ?_
      refine k_seq_normal ?_
      refine w_seq ?_
      refine w_region ?_
      refine l_cons rfl (p_callr en_105 (rxNone) ?_)
      refine l_cons rfl (p_store ty_29 ?_)
      refine l_nil ?_
      refine k_seq_normal ?_
      refine w_ret ?_
      first
      | (rw [stepX_3 (by omega), if_neg (by rw [show r.set.hasI c = false from h2']; decide)]
         exact retc rfl ty_29 subx ⟨rfl, rfl⟩)
      | (exfalso; have h9 := (plain_star hp (by omega)).1; omega)
      | (rw [stepX_no ⟨by omega, by omega, by omega, by omega⟩]
         exact retc rfl ty_29 subx ⟨rfl, rfl⟩)
  · skip
    have h1' := h1; (try simp only [bb] at h1')
    refine w_seq ?_
    refine w_region ?_
    refine l_cons rfl (p_cmp ?_)
    refine l_cons rfl (p_assign ?_)
    refine l_nil ?_
    refine k_seq_normal ?_
    refine w_b (fun h3 => ?_) (fun h3 => ?_)
    · skip
      have h3' := h3; (try simp only [bb] at h3')
      refine w_seq ?_
      refine w_region ?_
      refine l_cons rfl (p_assign ?_)
      refine l_nil ?_
      refine k_seq_normal ?_
      refine w_seq ?_
      refine w_seq ?_
      refine w_adopt 5 29 6 rfl fun s5 => ?_
      simp only [upd_upd]
      refine w_region ?_
      refine l_cons rfl (p_fap fa_29_2 ?_)
      refine l_cons rfl (p_loadp ty_27 ?_)
      first | refine l_cons rfl (p_lenl sl_27 ?_) | refine l_cons rfl (p_leno sl_27 ?_) | refine l_cons rfl (p_lenn sl_27 ?_)
      refine l_cons rfl (p_move ?_)
      refine l_nil ?_
      refine k_seq_normal ?_
      refine w_block ?_
      refine w_loop (fun m f es' => ∃ k s5, m = r.args.length - k ∧ k ≤ r.args.length ∧ Sub (.row s5 29 6 (((r.args.take k).map (fun a => stepX B a c)).map Rx.cells) :: .row s4 29 6 [[.int .i64 0, .int .u64 0, .int .u64 0, .int .u64 0, .int .u64 0, .nil]] :: .row s2 29 6 [[.int .i64 r.kind, .int .u64 r.set.w0, .int .u64 r.set.w1, .int .u64 r.set.w2, .int .u64 r.set.w3, .list 6 (r.args.map Rx.cells)]] :: es) es' ∧ Knows f [(1, .int .u8 c), (2, .ptr es.length s2 0 0), (4, .ptr (es.length + 1) s4 0 0), (5, .own (es.length + 2) s5), (20, .list 6 (r.args.map Rx.cells)), (21, .int .i64 r.args.length), (22, .int .i64 k)]) (r.args.length) (⟨0, s5, rfl, Nat.zero_le _, Sub.refl _, kn⟩) ?_
      rintro m f es' ⟨k, s5, rfl, hk1, hsub, hk⟩
      refine w_pins _ hsub (hk) ?_
      simp only [pins]
      refine w_seq ?_
      refine w_region ?_
      refine l_cons rfl (p_cmp ?_)
      refine l_nil ?_
      refine k_seq_normal ?_
      refine w_seq ?_
      refine w_b (fun h4 => ?_) (fun h4 => ?_)
      · skip
        have h4' := h4; (try simp only [bb] at h4')
        refine w_skip ?_
        refine k_seq_normal ?_
        refine w_seq ?_
        refine w_block ?_
        refine w_seq ?_
        refine w_region ?_
        refine l_cons rfl (p_ixl sl_27 ?_)
        refine l_cons rfl (p_loadf ty_29 ?_)
        refine l_cons rfl (p_alloc ze_29 fun s7 => ?_)
        refine l_cons rfl (p_store ty_29 ?_)
        refine l_nil ?_
        refine k_seq_normal ?_
        refine w_region ?_
        refine l_cons rfl (p_move ?_)
        refine l_cons rfl (p_loadp ty_29 ?_)
        refine l_cons rfl (p_move ?_)
        refine l_cons rfl (p_callr en_65 (ih (r.args[k]'(by omega)) _ (by have := r.nodes_arg (k := k) (by omega); omega) (ho.args _ (List.getElem_mem _)) (plain_args hp _ (List.getElem_mem _))) ?_)
        refine l_cons rfl (p_buildList sl_27 ze_29 ?_)
        refine l_cons rfl (p_append sl_27 by_29 ze_29 (fun s31 => ?_) (hb := by simp only [List.length_map, List.length_take, List.length_append, List.length_cons, List.length_nil, most]; omega))
        refine l_cons rfl (p_assign ?_)
        refine l_nil ?_
        refine k_blk_normal ?_
        refine k_seq_normal ?_
        refine w_region ?_
        refine l_cons rfl (p_arith ?_)
        refine l_cons rfl (p_move ?_)
        refine l_nil ?_
        refine k_seq_normal ?_
        exact ⟨r.args.length - (k + 1), by omega, k + 1, s31, rfl, by omega, by rw [take_map_succ (by omega), List.map_append]; exact sub1 _ _, kn⟩
      · skip
        have h4' := h4; (try simp only [bb] at h4')
        refine w_exit ?_
        refine k_seq_exit ?_
        refine k_seq_exit ?_
        refine k_blk_here ?_
        refine k_seq_normal ?_
        refine w_seq ?_
        obtain rfl : k = r.args.length := by omega
        rw [List.take_length]
        refine w_freezeTop 5 ?_ (hclean := cleans_rx _)
        have g1 : ∀ x ∈ r.args.map (fun a => stepX B a c), x.ok ∧ x.plain = true := by
          intro x hx
          obtain ⟨a, ha, rfl⟩ := List.mem_map.1 hx
          exact ⟨(hsg a ha).1, (hsg a ha).2.1⟩
        have g2 := nodesL_sq (f := (fun a => stepX B a c)) r.args (fun a ha => (hsg a ha).2.2)
        have g3 : Rx.nodesL r.args * Rx.nodesL r.args ≤ 500 * 500 := Nat.mul_le_mul (by omega) (by omega)
        refine w_region ?_
        refine l_cons rfl (p_move ?_)
        refine l_cons rfl (p_callr en_102 (rxAlt hT (r.args.map (fun a => stepX B a c)) (fun x hx => ⟨(g1 x hx).1, Rx.plain_tidy x (g1 x hx).1 (g1 x hx).2⟩) (by omega)) ?_)
        refine l_cons rfl (p_store ty_29 ?_)
        refine l_nil ?_
        refine k_seq_normal ?_
        refine w_ret ?_
        refine k_blk_ret ?_
        refine k_seq_ret ?_
        rw [stepX_5 (by omega)]
        exact retc rfl ty_29 subx ⟨rfl, rfl⟩
    · skip
      have h3' := h3; (try simp only [bb] at h3')
      refine w_seq ?_
      refine w_region ?_
      refine l_cons rfl (p_cmp ?_)
      refine l_cons rfl (p_assign ?_)
      refine l_nil ?_
      refine k_seq_normal ?_
      refine w_b (fun h5 => ?_) (fun h5 => ?_)
      · skip
        have h5' := h5; (try simp only [bb] at h5')
        refine w_seq ?_
        refine w_region ?_
        refine l_cons rfl (p_fap fa_29_2 ?_)
        refine l_cons rfl (p_loadp ty_27 ?_)
        first | refine l_cons rfl (p_lenl sl_27 ?_) | refine l_cons rfl (p_leno sl_27 ?_) | refine l_cons rfl (p_lenn sl_27 ?_)
        refine l_cons rfl (p_cmp ?_)
        refine l_nil ?_
        refine k_seq_normal ?_
        refine w_b (fun h6 => ?_) (fun h6 => ?_)
        · skip
          have h6' := h6; (try simp only [bb] at h6')
          refine w_seq ?_
          obtain ⟨a1, a2, a3⟩ := hsg _ (List.getElem_mem (l := r.args) (n := 0) (by omega))
          have a4 := step_small a3 (by have := r.nodes_arg (k := 0) (by omega); omega)
          refine w_drawn 7 [5] (fun e => at_ e es.length = some (.row s2 29 6 [[.int .i64 r.kind, .int .u64 r.set.w0, .int .u64 r.set.w1, .int .u64 r.set.w2, .int .u64 r.set.w3, .list 6 (r.args.map Rx.cells)]])) mixed (by kernel_rfl) (at_miss _ (at_hit _ _)) ?_
          refine q1 2 (hg := rfl) (hu := rfl) (h := by rintro f _ hG; exact p_fap fa_29_2 ⟨rfl, rfl⟩) (k := ?_)
          refine q1 41 (hg := rfl) (hu := rfl) (h := by rintro f _ hG; exact p_loadp ty_27 (a := .list 6 (r.args.map Rx.cells)) ⟨rfl, rfl⟩ (he := ⟨hG, fun _ => rfl⟩) (hr := rfl) (hl := Nat.le_of_ble_eq_true rfl) (ha := rfl)) (k := ?_)
          refine q1 42 (hg := rfl) (hu := rfl) (h := by rintro f _ hG; exact p_ixl sl_27 (a := .fptr 6 (r.args.map Rx.cells) 0 0) ⟨rfl, rfl⟩ (h0 := by omega) (h1 := by simp only [List.length_map]; omega) (ho := rfl)) (k := ?_)
          refine q1 43 (hg := rfl) (hu := rfl) (h := by rintro f _ hG; exact p_loadf ty_29 (a := .agg (r.args[0]'(by omega)).cells) ⟨rfl, rfl⟩ (hr := rxrow_at (l := r.args) (k := 0) (by omega)) (hl := Nat.le_refl 6) (ha := rfl)) (k := ?_)
          refine q1 1 (hg := rfl) (hu := rfl) (h := by rintro f _ hG; exact p_move ⟨rfl, rfl⟩) (k := ?_)
          refine q1 2 (hg := rfl) (hu := rfl) (h := by rintro f _ hG; exact p_loadp ty_29 (a := .agg [.int .i64 r.kind, .int .u64 r.set.w0, .int .u64 r.set.w1, .int .u64 r.set.w2, .int .u64 r.set.w3, .list 6 (r.args.map Rx.cells)]) ⟨rfl, rfl⟩ (he := ⟨hG, fun _ => rfl⟩) (hr := rfl) (hl := Nat.le_refl 6) (ha := rfl)) (k := ?_)
          refine q_end ?_
          refine m2 44 45 (hu := rfl) (h := fun f => p_callr en_65 (ih (r.args[0]'(by omega)) _ (by have := r.nodes_arg (k := 0) (by omega); omega) (ho.args _ (List.getElem_mem _)) (plain_args hp _ (List.getElem_mem _))) ?_)
          refine ⟨_, rfl, at_miss _ (at_hit _ _), ?_⟩
          refine m_end ?_
          refine l_cons rfl (p_buildList sl_27 ze_29 (rows := [(stepX B (r.args[0]'(by omega)) c).cells, r.cells]) ?_ (hr := by rw [Rx.cells_eq r]; rfl))
          refine l_cons rfl (p_callr en_103 (rxCat [stepX B (r.args[0]'(by omega)) c, r] (by rw [pair_nodes]; omega)) ?_)
          refine l_cons rfl (p_store ty_29 ?_)
          refine l_nil ?_
          refine k_seq_normal ?_
          refine w_ret ?_
          refine k_blk_ret ?_
          refine k_seq_ret ?_
          rw [stepX_6 (by omega), stepS_one (by omega)]
          exact retc rfl ty_29 subx ⟨rfl, rfl⟩
        · skip
          have h6' := h6; (try simp only [bb] at h6')
          refine w_skip ?_
          refine k_blk_normal ?_
          refine k_seq_normal ?_
          refine w_seq ?_
          refine w_region ?_
          refine l_cons rfl (p_callr en_105 (rxNone) ?_)
          refine l_cons rfl (p_store ty_29 ?_)
          refine l_nil ?_
          refine k_seq_normal ?_
          refine w_ret ?_
          first
          | (rw [stepX_3 (by omega), if_neg (by rw [show r.set.hasI c = false from h2']; decide)]
             exact retc rfl ty_29 subx ⟨rfl, rfl⟩)
          | (exfalso; have h9 := (plain_star hp (by omega)).1; omega)
          | (rw [stepX_no ⟨by omega, by omega, by omega, by omega⟩]
             exact retc rfl ty_29 subx ⟨rfl, rfl⟩)
      · skip
        have h5' := h5; (try simp only [bb] at h5')
        refine w_seq ?_
        refine w_region ?_
        refine l_cons rfl (p_cmp ?_)
        refine l_cons rfl (p_assign ?_)
        refine l_nil ?_
        refine k_seq_normal ?_
        refine w_b (fun h7 => ?_) (fun h7 => ?_)
        · skip
          have h7' := h7; (try simp only [bb] at h7')
          refine w_seq ?_
          refine w_region ?_
          refine l_cons rfl (p_fap fa_29_2 ?_)
          refine l_cons rfl (p_loadp ty_27 ?_)
          refine l_cons rfl (p_move ?_)
          refine l_cons rfl (p_callr en_104 (stepCat_walk hT hc (by omega) ih r.args (by omega) ho.args (plain_args hp)) ?_)
          refine l_cons rfl (p_store ty_29 ?_)
          refine l_nil ?_
          refine k_seq_normal ?_
          refine w_ret ?_
          refine k_blk_ret ?_
          refine k_seq_ret ?_
          rw [stepX_4 (by omega)]
          exact retc rfl ty_29 subx ⟨rfl, rfl⟩
        · skip
          have h7' := h7; (try simp only [bb] at h7')
          refine w_skip ?_
          refine k_blk_normal ?_
          refine k_seq_normal ?_
          refine w_seq ?_
          refine w_region ?_
          refine l_cons rfl (p_callr en_105 (rxNone) ?_)
          refine l_cons rfl (p_store ty_29 ?_)
          refine l_nil ?_
          refine k_seq_normal ?_
          refine w_ret ?_
          first
          | (rw [stepX_3 (by omega), if_neg (by rw [show r.set.hasI c = false from h2']; decide)]
             exact retc rfl ty_29 subx ⟨rfl, rfl⟩)
          | (exfalso; have h9 := (plain_star hp (by omega)).1; omega)
          | (rw [stepX_no ⟨by omega, by omega, by omega, by omega⟩]
             exact retc rfl ty_29 subx ⟨rfl, rfl⟩)
end
set_option maxRecDepth 8000
section
open Go.RowKit Go.Proofs
theorem refStep5 {w0 : World} {c : Int} (hc : 0 ≤ c ∧ c < 256) : ∀ (B : Nat) (r : Rx) (es : List Ent), r.nodes ≤ B → B ≤ 500 → r.ok → r.plain = true → ACalls Tryd.prog w0 66 [.agg r.cells, .int .u8 c] es fun v es' => v = .agg (stepX B r c).cells ∧ es' = es := by
  intro B
  induction B using Nat.strongRecOn with
  | _ B ih0 => ?_
  intro r es hB hB2 ho hp
  obtain ⟨B, rfl⟩ : ∃ q, B = q + 1 := ⟨B - 1, by have := r.nodes_pos; omega⟩
  have ih := fun r es h1 => ih0 B (Nat.lt_succ_self B) r es h1 (by omega)
  rw [Rx.cells_eq r]
  have hs := ho.set
  have hne := r.nodes_eq
  have hal := Rx.len_le r.args
  have hsg : ∀ a ∈ r.args, Good a (stepX B a c) := fun a ha => stepX_good B a c (by have := nodes_mem_lt ha; omega) (ho.args a ha) (plain_args hp a ha)
  refine calls2 (N := 78) Tryd.func66 rfl rfl (by decide) ?_
  refine w_seq ?_
  refine w_region ?_
  refine l_cons rfl (p_box fun s2 => ?_)
  refine l_cons rfl (p_alloc ze_29 fun s4 => ?_)
  refine l_nil ?_
  refine k_seq_normal ?_
  refine w_seq ?_
  refine w_seq ?_
  refine w_region ?_
  refine l_cons rfl (p_fap fa_29_0 ?_)
  refine l_cons rfl (p_loadp ty_3 ?_)
  refine l_nil ?_
  refine k_seq_normal ?_
  refine w_block ?_
  refine w_seq ?_
  refine w_region ?_
  refine l_cons rfl (p_cmp ?_)
  refine l_cons rfl (p_assign ?_)
  refine l_nil ?_
  refine k_seq_normal ?_
  refine w_b (fun h1 => ?_) (fun h1 => ?_)
  · skip
    have h1' := h1; (try simp only [bb] at h1')
    refine w_seq ?_
    refine w_region ?_
    refine l_cons rfl (p_fap fa_29_1 ?_)
    refine l_cons rfl (p_loadp ty_26 ?_)
    refine l_cons rfl (p_move ?_)
    refine l_cons rfl (p_callr en_55 (ref1Has r.set.w0 r.set.w1 r.set.w2 r.set.w3 c hc.1 hc.2 hs.1 hs.2.1 hs.2.2.1 hs.2.2.2.1) ?_)
    refine l_nil ?_
    refine k_seq_normal ?_
    refine w_b (fun h2 => ?_) (fun h2 => ?_)
    · skip
      have h2' := h2; (try simp only [bb] at h2')
      refine w_seq ?_
      refine w_region ?_
      refine l_cons rfl (p_callr en_85 (refEmpty) ?_)
      refine l_cons rfl (p_store ty_29 ?_)
      refine l_nil ?_
      refine k_seq_normal ?_
      refine w_ret ?_
      refine k_blk_ret ?_
      refine k_seq_ret ?_
      rw [stepX_3 (by omega), if_pos (by exact h2')]
      exact retc rfl ty_29 subx ⟨rfl, rfl⟩
    · skip
      have h2' := h2; (try simp only [bb] at h2')
      refine w_skip ?_
      refine k_blk_normal ?_
      refine k_seq_normal ?_
      refine w_seq ?_
      refine w_region ?_
      refine l_cons rfl (p_callr en_84 (refNone) ?_)
      refine l_cons rfl (p_store ty_29 ?_)
      refine l_nil ?_
      refine k_seq_normal ?_
      refine w_ret ?_
      first
      | (rw [stepX_3 (by omega), if_neg (by rw [show r.set.hasI c = false from h2']; decide)]
         exact retc rfl ty_29 subx ⟨rfl, rfl⟩)
      | (rw [stepX_no ⟨by omega, by omega, by omega, by omega⟩]
         exact retc rfl ty_29 subx ⟨rfl, rfl⟩)
  · skip
    have h1' := h1; (try simp only [bb] at h1')
    refine w_seq ?_
    refine w_region ?_
    refine l_cons rfl (p_cmp ?_)
    refine l_cons rfl (p_assign ?_)
    refine l_nil ?_
    refine k_seq_normal ?_
    refine w_b (fun h3 => ?_) (fun h3 => ?_)
    · skip
      have h3' := h3; (try simp only [bb] at h3')
      refine w_seq ?_
      refine w_region ?_
      refine l_cons rfl (p_assign ?_)
      refine l_nil ?_
      refine k_seq_normal ?_
      refine w_seq ?_
      refine w_seq ?_
      refine w_adopt 5 29 6 rfl fun s5 => ?_
      simp only [upd_upd]
      refine w_region ?_
      refine l_cons rfl (p_assign ?_)
      refine l_nil ?_
      refine k_seq_normal ?_
      refine w_block ?_
      refine w_loop (fun m f es' => ∃ k s5, m = r.args.length - k ∧ k ≤ r.args.length ∧ Sub (.row s5 29 6 (((r.args.take k).map (fun a => stepX B a c)).map Rx.cells) :: .row s4 29 6 [[.int .i64 0, .int .u64 0, .int .u64 0, .int .u64 0, .int .u64 0, .nil]] :: .row s2 29 6 [[.int .i64 r.kind, .int .u64 r.set.w0, .int .u64 r.set.w1, .int .u64 r.set.w2, .int .u64 r.set.w3, .list 6 (r.args.map Rx.cells)]] :: es) es' ∧ Knows f [(1, .int .u8 c), (2, .ptr es.length s2 0 0), (4, .ptr (es.length + 1) s4 0 0), (5, .own (es.length + 2) s5), (6, .int .i64 k)]) (r.args.length) (⟨0, s5, rfl, Nat.zero_le _, Sub.refl _, kn⟩) ?_
      rintro m f es' ⟨k, s5, rfl, hk1, hsub, hk⟩
      refine w_pins _ hsub (hk) ?_
      simp only [pins]
      refine w_seq ?_
      refine w_seq ?_
      refine w_region ?_
      refine l_cons rfl (p_move ?_)
      refine l_cons rfl (p_fap fa_29_2 ?_)
      refine l_cons rfl (p_loadp ty_27 ?_)
      first | refine l_cons rfl (p_lenl sl_27 ?_) | refine l_cons rfl (p_leno sl_27 ?_) | refine l_cons rfl (p_lenn sl_27 ?_)
      refine l_cons rfl (p_cmp ?_)
      refine l_nil ?_
      refine k_seq_normal ?_
      refine w_b (fun h4 => ?_) (fun h4 => ?_)
      · skip
        have h4' := h4; (try simp only [bb] at h4')
        refine w_skip ?_
        refine k_seq_normal ?_
        refine w_seq ?_
        refine w_block ?_
        refine w_region ?_
        refine l_cons rfl (p_move ?_)
        refine l_cons rfl (p_fap fa_29_2 ?_)
        refine l_cons rfl (p_loadp ty_27 ?_)
        refine l_cons rfl (p_move ?_)
        refine l_cons rfl (p_ixl sl_27 (a := .fptr 6 (r.args.map Rx.cells) k 0) ?_ (h0 := by omega) (h1 := by simp only [List.length_map]; omega) (ho := rfl))
        refine l_cons rfl (p_loadf ty_29 (a := .agg (r.args[k]'(by omega)).cells) ?_ (hr := rxrow_at (l := r.args) (k := k) (by omega)) (hl := Nat.le_refl 6) (ha := rfl))
        refine l_cons rfl (p_move ?_)
        refine l_cons rfl (p_callr en_66 (ih (r.args[k]'(by omega)) _ (by have := r.nodes_arg (k := k) (by omega); omega) (ho.args _ (List.getElem_mem _)) (plain_args hp _ (List.getElem_mem _))) ?_)
        refine l_cons rfl (p_buildList sl_27 ze_29 ?_)
        refine l_cons rfl (p_append sl_27 by_29 ze_29 (fun s36 => ?_) (hb := by simp only [List.length_map, List.length_take, List.length_append, List.length_cons, List.length_nil, most]; omega))
        refine l_cons rfl (p_assign ?_)
        refine l_nil ?_
        refine k_blk_normal ?_
        refine k_seq_normal ?_
        refine w_region ?_
        refine l_cons rfl (p_move ?_)
        refine l_cons rfl (p_arith ?_)
        refine l_cons rfl (p_assign ?_)
        refine l_nil ?_
        refine k_seq_normal ?_
        exact ⟨r.args.length - (k + 1), by omega, k + 1, s36, rfl, by omega, by rw [take_map_succ (by omega), List.map_append]; exact Sub.refl _, kn⟩
      · skip
        have h4' := h4; (try simp only [bb] at h4')
        refine w_exit ?_
        refine k_seq_exit ?_
        refine k_seq_exit ?_
        refine k_blk_here ?_
        refine k_seq_normal ?_
        refine w_seq ?_
        obtain rfl : k = r.args.length := by omega
        rw [List.take_length]
        refine w_freezeTop 5 ?_ (hclean := cleans_rx _)
        have g1 : ∀ x ∈ r.args.map (fun a => stepX B a c), x.ok ∧ x.plain = true := by
          intro x hx
          obtain ⟨a, ha, rfl⟩ := List.mem_map.1 hx
          exact ⟨(hsg a ha).1, (hsg a ha).2.1⟩
        have g2 := nodesL_sq (f := (fun a => stepX B a c)) r.args (fun a ha => (hsg a ha).2.2)
        have g3 : Rx.nodesL r.args * Rx.nodesL r.args ≤ 500 * 500 := Nat.mul_le_mul (by omega) (by omega)
        refine w_region ?_
        refine l_cons rfl (p_move ?_)
        refine l_cons rfl (p_callr en_40 (refAlt (r.args.map (fun a => stepX B a c)) (fun x hx => (g1 x hx).1) (by omega)) ?_)
        refine l_cons rfl (p_store ty_29 ?_)
        refine l_nil ?_
        refine k_seq_normal ?_
        refine w_ret ?_
        refine k_blk_ret ?_
        refine k_seq_ret ?_
        rw [stepX_5 (by omega)]
        exact retc rfl ty_29 subx ⟨rfl, rfl⟩
    · skip
      have h3' := h3; (try simp only [bb] at h3')
      refine w_seq ?_
      refine w_region ?_
      refine l_cons rfl (p_cmp ?_)
      refine l_cons rfl (p_assign ?_)
      refine l_nil ?_
      refine k_seq_normal ?_
      refine w_b (fun h5 => ?_) (fun h5 => ?_)
      · skip
        have h5' := h5; (try simp only [bb] at h5')
        refine w_seq ?_
        obtain ⟨hl1, _⟩ := plain_star hp (by omega)
        obtain ⟨a1, a2, a3⟩ := hsg _ (List.getElem_mem (l := r.args) (n := 0) (by omega))
        have a4 := step_small a3 (by have := r.nodes_arg (k := 0) (by omega); omega)
        refine w_drawn 7 [5] (fun e => at_ e es.length = some (.row s2 29 6 [[.int .i64 r.kind, .int .u64 r.set.w0, .int .u64 r.set.w1, .int .u64 r.set.w2, .int .u64 r.set.w3, .list 6 (r.args.map Rx.cells)]])) mixed (by kernel_rfl) (at_miss _ (at_hit _ _)) ?_
        refine q1 2 (hg := rfl) (hu := rfl) (h := by rintro f _ hG; exact p_fap fa_29_2 ⟨rfl, rfl⟩) (k := ?_)
        refine q1 41 (hg := rfl) (hu := rfl) (h := by rintro f _ hG; exact p_loadp ty_27 (a := .list 6 (r.args.map Rx.cells)) ⟨rfl, rfl⟩ (he := ⟨hG, fun _ => rfl⟩) (hr := rfl) (hl := Nat.le_of_ble_eq_true rfl) (ha := rfl)) (k := ?_)
        refine q1 42 (hg := rfl) (hu := rfl) (h := by rintro f _ hG; exact p_ixl sl_27 (a := .fptr 6 (r.args.map Rx.cells) 0 0) ⟨rfl, rfl⟩ (h0 := by omega) (h1 := by simp only [List.length_map]; omega) (ho := rfl)) (k := ?_)
        refine q1 43 (hg := rfl) (hu := rfl) (h := by rintro f _ hG; exact p_loadf ty_29 (a := .agg (r.args[0]'(by omega)).cells) ⟨rfl, rfl⟩ (hr := rxrow_at (l := r.args) (k := 0) (by omega)) (hl := Nat.le_refl 6) (ha := rfl)) (k := ?_)
        refine q1 1 (hg := rfl) (hu := rfl) (h := by rintro f _ hG; exact p_move ⟨rfl, rfl⟩) (k := ?_)
        refine q1 2 (hg := rfl) (hu := rfl) (h := by rintro f _ hG; exact p_loadp ty_29 (a := .agg [.int .i64 r.kind, .int .u64 r.set.w0, .int .u64 r.set.w1, .int .u64 r.set.w2, .int .u64 r.set.w3, .list 6 (r.args.map Rx.cells)]) ⟨rfl, rfl⟩ (he := ⟨hG, fun _ => rfl⟩) (hr := rfl) (hl := Nat.le_refl 6) (ha := rfl)) (k := ?_)
        refine q_end ?_
        refine m2 44 45 (hu := rfl) (h := fun f => p_callr en_66 (ih (r.args[0]'(by omega)) _ (by have := r.nodes_arg (k := 0) (by omega); omega) (ho.args _ (List.getElem_mem _)) (plain_args hp _ (List.getElem_mem _))) ?_)
        refine ⟨_, rfl, at_miss _ (at_hit _ _), ?_⟩
        refine m_end ?_
        refine l_cons rfl (p_buildList sl_27 ze_29 (rows := [(stepX B (r.args[0]'(by omega)) c).cells, r.cells]) ?_ (hr := by rw [Rx.cells_eq r]; rfl))
        refine l_cons rfl (p_callr en_39 (refCat [(stepX B (r.args[0]'(by omega)) c), r] (by rw [pair_nodes]; omega)) ?_)
        refine l_cons rfl (p_store ty_29 ?_)
        refine l_nil ?_
        refine k_seq_normal ?_
        refine w_ret ?_
        refine k_blk_ret ?_
        refine k_seq_ret ?_
        rw [stepX_6 (by omega), stepS_one (by omega)]
        exact retc rfl ty_29 subx ⟨rfl, rfl⟩
      · skip
        have h5' := h5; (try simp only [bb] at h5')
        refine w_seq ?_
        refine w_region ?_
        refine l_cons rfl (p_cmp ?_)
        refine l_cons rfl (p_assign ?_)
        refine l_nil ?_
        refine k_seq_normal ?_
        refine w_b (fun h6 => ?_) (fun h6 => ?_)
        · skip
          have h6' := h6; (try simp only [bb] at h6')
          refine w_seq ?_
          obtain ⟨hl1, _⟩ := plain_cat hp (by omega)
          have hl0 : 0 < r.args.length := by omega
          have hd1 : ((r.args.map Rx.cells).take (r.args.map Rx.cells).length).drop 1 = (r.args.drop 1).map Rx.cells := by rw [List.take_length, List.map_drop]
          have hnd := drop1_nodes hl0
          have hl0p := (r.args[0]'(by omega)).nodes_pos
          obtain ⟨u1, u2, u3⟩ := cat_parts hl0 ho.args (plain_args hp)
          have hqn : (catR (r.args.drop 1)).nodes ≤ B := by omega
          obtain ⟨a1, a2, a3⟩ := hsg _ (List.getElem_mem (l := r.args) (n := 0) (by omega))
          obtain ⟨b1, b2, b3⟩ := stepX_good B (catR (r.args.drop 1)) c hqn u1 u2
          have ab4 := step_pair a3 b3 (by omega)
          have d1 := catR_ok (pair_ok a1 u1)
          have d3 := catR_nodes [(stepX B (r.args[0]'(by omega)) c), (catR (r.args.drop 1))]
          rw [pair_nodes] at d3
          refine w_region ?_
          refine l_cons rfl (p_fap fa_29_2 ?_)
          refine l_cons rfl (p_loadp ty_27 ?_)
          refine l_cons rfl (p_slicel (l := 1) (h := _) sl_27 ?_ (hlh := by simp only [List.length_map]; omega))
          rw [hd1]
          refine l_cons rfl (p_callr en_39 (refCat (r.args.drop 1) (by omega)) ?_)
          refine l_cons rfl (p_alloc ze_29 fun s7 => ?_)
          refine l_cons rfl (p_store ty_29 ?_)
          refine l_nil ?_
          refine k_seq_normal ?_
          refine w_cut (fun f es' => ∃ s8, Sub (.row s8 29 6 [(catR [(stepX B (r.args[0]'(by omega)) c), (catR (r.args.drop 1))]).cells] :: .row s7 29 6 [(catR (r.args.drop 1)).cells] :: .row s4 29 6 [[.int .i64 0, .int .u64 0, .int .u64 0, .int .u64 0, .int .u64 0, .nil]] :: .row s2 29 6 [[.int .i64 r.kind, .int .u64 r.set.w0, .int .u64 r.set.w1, .int .u64 r.set.w2, .int .u64 r.set.w3, .list 6 (r.args.map Rx.cells)]] :: es) es' ∧ Knows f [(1, .int .u8 c), (2, .ptr es.length s2 0 0), (4, .ptr (es.length + 1) s4 0 0), (7, .ptr (es.length + 2) s7 0 0), (8, .ptr (es.length + 3) s8 0 0)]) ?_ ?_
          · skip
            refine w_drawnT 10 [5, 7, 8, 9] (fun e => at_ e es.length = some (.row s2 29 6 [[.int .i64 r.kind, .int .u64 r.set.w0, .int .u64 r.set.w1, .int .u64 r.set.w2, .int .u64 r.set.w3, .list 6 (r.args.map Rx.cells)]]) ∧ at_ e (es.length + 2) = some (.row s7 29 6 [(catR (r.args.drop 1)).cells])) mixed (by kernel_rfl) ⟨(by first | exact at_hit _ _ | exact at_miss _ (at_hit _ _) | exact at_miss _ (at_miss _ (at_hit _ _)) | exact at_miss _ (at_miss _ (at_miss _ (at_hit _ _)))), (by first | exact at_hit _ _ | exact at_miss _ (at_hit _ _) | exact at_miss _ (at_miss _ (at_hit _ _)) | exact at_miss _ (at_miss _ (at_miss _ (at_hit _ _))))⟩ ?_
            refine q1 2 (hg := rfl) (hu := rfl) (h := by rintro f _ hG; exact p_fap fa_29_2 ⟨rfl, rfl⟩) (k := ?_)
            refine q1 56 (hg := rfl) (hu := rfl) (h := by rintro f _ hG; exact p_loadp ty_27 (a := .list 6 (r.args.map Rx.cells)) ⟨rfl, rfl⟩ (he := ⟨hG.1, fun _ => rfl⟩) (hr := rfl) (hl := Nat.le_of_ble_eq_true rfl) (ha := rfl)) (k := ?_)
            refine q1 57 (hg := rfl) (hu := rfl) (h := by rintro f _ hG; exact p_ixl sl_27 (a := .fptr 6 (r.args.map Rx.cells) 0 0) ⟨rfl, rfl⟩ (h0 := by omega) (h1 := by simp only [List.length_map]; omega) (ho := rfl)) (k := ?_)
            refine q1 58 (hg := rfl) (hu := rfl) (h := by rintro f _ hG; exact p_loadf ty_29 (a := .agg (r.args[0]'(by omega)).cells) ⟨rfl, rfl⟩ (hr := rxrow_at (l := r.args) (k := 0) (by omega)) (hl := Nat.le_refl 6) (ha := rfl)) (k := ?_)
            refine q1 1 (hg := rfl) (hu := rfl) (h := by rintro f _ hG; exact p_move ⟨rfl, rfl⟩) (k := ?_)
            refine q1 7 (hg := rfl) (hu := rfl) (h := by rintro f _ hG; exact p_loadp ty_29 (a := .agg (catR (r.args.drop 1)).cells) ⟨rfl, rfl⟩ (he := ⟨hG.2, fun _ => rfl⟩) (hr := rfl) (hl := Nat.le_refl 6) (ha := rfl)) (k := ?_)
            refine q_end ?_
            refine t_two 5 9 [7, 8, 9] [5, 7, 8] (by kernel_rfl) rfl rfl rfl rfl ?_ ?_
            · skip
              refine m2 59 60 (hu := rfl) (h := fun f => p_callr en_66 (ih (r.args[0]'(by omega)) _ (by have := r.nodes_arg (k := 0) (by omega); omega) (ho.args _ (List.getElem_mem _)) (plain_args hp _ (List.getElem_mem _))) ?_)
              refine ⟨_, rfl, ⟨(by first | exact at_hit _ _ | exact at_miss _ (at_hit _ _) | exact at_miss _ (at_miss _ (at_hit _ _)) | exact at_miss _ (at_miss _ (at_miss _ (at_hit _ _)))), (by first | exact at_hit _ _ | exact at_miss _ (at_hit _ _) | exact at_miss _ (at_miss _ (at_hit _ _)) | exact at_miss _ (at_miss _ (at_miss _ (at_hit _ _))))⟩, ?_⟩
              refine m_end ?_
              refine t_two 7 9 [8, 9] [7, 8] (by kernel_rfl) rfl rfl rfl rfl ?_ ?_
              · skip
                refine m2 61 62 (hu := rfl) (h := fun f => p_buildList sl_27 ze_29 (rows := [(stepX B (r.args[0]'(by omega)) c).cells, (catR (r.args.drop 1)).cells]) ?_ (hr := rfl))
                refine ⟨_, rfl, ⟨(by first | exact at_hit _ _ | exact at_miss _ (at_hit _ _) | exact at_miss _ (at_miss _ (at_hit _ _)) | exact at_miss _ (at_miss _ (at_miss _ (at_hit _ _)))), (by first | exact at_hit _ _ | exact at_miss _ (at_hit _ _) | exact at_miss _ (at_miss _ (at_hit _ _)) | exact at_miss _ (at_miss _ (at_miss _ (at_hit _ _))))⟩, ?_⟩
                refine m_end ?_
                refine t_two 8 9 [9] [8] (by kernel_rfl) rfl rfl rfl rfl ?_ ?_
                · skip
                  refine m1 63 (hu := rfl) (h := fun f => p_callr en_39 (refCat [(stepX B (r.args[0]'(by omega)) c), (catR (r.args.drop 1))] (by rw [pair_nodes]; omega)) ?_)
                  refine ⟨_, rfl, ⟨(by first | exact at_hit _ _ | exact at_miss _ (at_hit _ _) | exact at_miss _ (at_miss _ (at_hit _ _)) | exact at_miss _ (at_miss _ (at_miss _ (at_hit _ _)))), (by first | exact at_hit _ _ | exact at_miss _ (at_hit _ _) | exact at_miss _ (at_miss _ (at_hit _ _)) | exact at_miss _ (at_miss _ (at_miss _ (at_hit _ _))))⟩, ?_⟩
                  refine m_end ?_
                  refine t_one 9 [] (by kernel_rfl) rfl rfl ?_
                  refine m0  (hu := rfl) (h := fun f => p_alloc ze_29 fun s8 => ?_)
                  refine ⟨_, rfl, ⟨(by first | exact at_hit _ _ | exact at_miss _ (at_hit _ _) | exact at_miss _ (at_miss _ (at_hit _ _)) | exact at_miss _ (at_miss _ (at_miss _ (at_hit _ _)))), (by first | exact at_hit _ _ | exact at_miss _ (at_hit _ _) | exact at_miss _ (at_miss _ (at_hit _ _)) | exact at_miss _ (at_miss _ (at_miss _ (at_hit _ _))))⟩, ?_⟩
                  refine m_end ?_
                  refine t_end ?_
                  refine l_cons rfl (p_store ty_29 ?_)
                  refine l_nil ?_
                  refine k_seq_normal ?_
                  exact ⟨s8, Sub.refl _, kn⟩
                · skip
                  refine m0  (hu := rfl) (h := fun f => p_alloc ze_29 fun s8 => ?_)
                  refine ⟨_, rfl, ⟨(by first | exact at_hit _ _ | exact at_miss _ (at_hit _ _) | exact at_miss _ (at_miss _ (at_hit _ _)) | exact at_miss _ (at_miss _ (at_miss _ (at_hit _ _)))), (by first | exact at_hit _ _ | exact at_miss _ (at_hit _ _) | exact at_miss _ (at_miss _ (at_hit _ _)) | exact at_miss _ (at_miss _ (at_miss _ (at_hit _ _))))⟩, ?_⟩
                  refine m_end ?_
                  refine t_one 8 [] (by kernel_rfl) rfl rfl ?_
                  refine m1 63 (hu := rfl) (h := fun f => p_callr en_39 (refCat [(stepX B (r.args[0]'(by omega)) c), (catR (r.args.drop 1))] (by rw [pair_nodes]; omega)) ?_)
                  refine ⟨_, rfl, ⟨(by first | exact at_hit _ _ | exact at_miss _ (at_hit _ _) | exact at_miss _ (at_miss _ (at_hit _ _)) | exact at_miss _ (at_miss _ (at_miss _ (at_hit _ _)))), (by first | exact at_hit _ _ | exact at_miss _ (at_hit _ _) | exact at_miss _ (at_miss _ (at_hit _ _)) | exact at_miss _ (at_miss _ (at_miss _ (at_hit _ _))))⟩, ?_⟩
                  refine m_end ?_
                  refine t_end ?_
                  refine l_cons rfl (p_store ty_29 ?_)
                  refine l_nil ?_
                  refine k_seq_normal ?_
                  exact ⟨s8, Sub.refl _, kn⟩
              · skip
                refine m0  (hu := rfl) (h := fun f => p_alloc ze_29 fun s8 => ?_)
                refine ⟨_, rfl, ⟨(by first | exact at_hit _ _ | exact at_miss _ (at_hit _ _) | exact at_miss _ (at_miss _ (at_hit _ _)) | exact at_miss _ (at_miss _ (at_miss _ (at_hit _ _)))), (by first | exact at_hit _ _ | exact at_miss _ (at_hit _ _) | exact at_miss _ (at_miss _ (at_hit _ _)) | exact at_miss _ (at_miss _ (at_miss _ (at_hit _ _))))⟩, ?_⟩
                refine m_end ?_
                refine t_one 7 [8] (by kernel_rfl) rfl rfl ?_
                refine m2 61 62 (hu := rfl) (h := fun f => p_buildList sl_27 ze_29 (rows := [(stepX B (r.args[0]'(by omega)) c).cells, (catR (r.args.drop 1)).cells]) ?_ (hr := rfl))
                refine ⟨_, rfl, ⟨(by first | exact at_hit _ _ | exact at_miss _ (at_hit _ _) | exact at_miss _ (at_miss _ (at_hit _ _)) | exact at_miss _ (at_miss _ (at_miss _ (at_hit _ _)))), (by first | exact at_hit _ _ | exact at_miss _ (at_hit _ _) | exact at_miss _ (at_miss _ (at_hit _ _)) | exact at_miss _ (at_miss _ (at_miss _ (at_hit _ _))))⟩, ?_⟩
                refine m_end ?_
                refine t_one 8 [] (by kernel_rfl) rfl rfl ?_
                refine m1 63 (hu := rfl) (h := fun f => p_callr en_39 (refCat [(stepX B (r.args[0]'(by omega)) c), (catR (r.args.drop 1))] (by rw [pair_nodes]; omega)) ?_)
                refine ⟨_, rfl, ⟨(by first | exact at_hit _ _ | exact at_miss _ (at_hit _ _) | exact at_miss _ (at_miss _ (at_hit _ _)) | exact at_miss _ (at_miss _ (at_miss _ (at_hit _ _)))), (by first | exact at_hit _ _ | exact at_miss _ (at_hit _ _) | exact at_miss _ (at_miss _ (at_hit _ _)) | exact at_miss _ (at_miss _ (at_miss _ (at_hit _ _))))⟩, ?_⟩
                refine m_end ?_
                refine t_end ?_
                refine l_cons rfl (p_store ty_29 ?_)
                refine l_nil ?_
                refine k_seq_normal ?_
                exact ⟨s8, Sub.refl _, kn⟩
            · skip
              refine m0  (hu := rfl) (h := fun f => p_alloc ze_29 fun s8 => ?_)
              refine ⟨_, rfl, ⟨(by first | exact at_hit _ _ | exact at_miss _ (at_hit _ _) | exact at_miss _ (at_miss _ (at_hit _ _)) | exact at_miss _ (at_miss _ (at_miss _ (at_hit _ _)))), (by first | exact at_hit _ _ | exact at_miss _ (at_hit _ _) | exact at_miss _ (at_miss _ (at_hit _ _)) | exact at_miss _ (at_miss _ (at_miss _ (at_hit _ _))))⟩, ?_⟩
              refine m_end ?_
              refine t_one 5 [7, 8] (by kernel_rfl) rfl rfl ?_
              refine m2 59 60 (hu := rfl) (h := fun f => p_callr en_66 (ih (r.args[0]'(by omega)) _ (by have := r.nodes_arg (k := 0) (by omega); omega) (ho.args _ (List.getElem_mem _)) (plain_args hp _ (List.getElem_mem _))) ?_)
              refine ⟨_, rfl, ⟨(by first | exact at_hit _ _ | exact at_miss _ (at_hit _ _) | exact at_miss _ (at_miss _ (at_hit _ _)) | exact at_miss _ (at_miss _ (at_miss _ (at_hit _ _)))), (by first | exact at_hit _ _ | exact at_miss _ (at_hit _ _) | exact at_miss _ (at_miss _ (at_hit _ _)) | exact at_miss _ (at_miss _ (at_miss _ (at_hit _ _))))⟩, ?_⟩
              refine m_end ?_
              refine t_one 7 [8] (by kernel_rfl) rfl rfl ?_
              refine m2 61 62 (hu := rfl) (h := fun f => p_buildList sl_27 ze_29 (rows := [(stepX B (r.args[0]'(by omega)) c).cells, (catR (r.args.drop 1)).cells]) ?_ (hr := rfl))
              refine ⟨_, rfl, ⟨(by first | exact at_hit _ _ | exact at_miss _ (at_hit _ _) | exact at_miss _ (at_miss _ (at_hit _ _)) | exact at_miss _ (at_miss _ (at_miss _ (at_hit _ _)))), (by first | exact at_hit _ _ | exact at_miss _ (at_hit _ _) | exact at_miss _ (at_miss _ (at_hit _ _)) | exact at_miss _ (at_miss _ (at_miss _ (at_hit _ _))))⟩, ?_⟩
              refine m_end ?_
              refine t_one 8 [] (by kernel_rfl) rfl rfl ?_
              refine m1 63 (hu := rfl) (h := fun f => p_callr en_39 (refCat [(stepX B (r.args[0]'(by omega)) c), (catR (r.args.drop 1))] (by rw [pair_nodes]; omega)) ?_)
              refine ⟨_, rfl, ⟨(by first | exact at_hit _ _ | exact at_miss _ (at_hit _ _) | exact at_miss _ (at_miss _ (at_hit _ _)) | exact at_miss _ (at_miss _ (at_miss _ (at_hit _ _)))), (by first | exact at_hit _ _ | exact at_miss _ (at_hit _ _) | exact at_miss _ (at_miss _ (at_hit _ _)) | exact at_miss _ (at_miss _ (at_miss _ (at_hit _ _))))⟩, ?_⟩
              refine m_end ?_
              refine t_end ?_
              refine l_cons rfl (p_store ty_29 ?_)
              refine l_nil ?_
              refine k_seq_normal ?_
              exact ⟨s8, Sub.refl _, kn⟩
          · skip
            rintro f es' ⟨s8, hsub, hk⟩
            refine w_pins _ hsub (hk) ?_
            simp only [pins]
            refine w_seq ?_
            refine w_seq ?_
            refine w_region ?_
            refine l_cons rfl (p_fap fa_29_2 ?_)
            refine l_cons rfl (p_loadp ty_27 ?_)
            refine l_cons rfl (p_ixl sl_27 (a := .fptr 6 (r.args.map Rx.cells) 0 0) ?_ (h0 := by omega) (h1 := by simp only [List.length_map]; omega) (ho := rfl))
            refine l_cons rfl (p_loadf ty_29 (a := .agg (r.args[0]'(by omega)).cells) ?_ (hr := rxrow_at (l := r.args) (k := 0) (by omega)) (hl := Nat.le_refl 6) (ha := rfl))
            refine l_cons rfl (p_callr en_60 (refNull _ (r.args[0]'(by omega)) _ (Nat.le_refl _) (by omega)) ?_)
            refine l_nil ?_
            refine k_seq_normal ?_
            refine w_b (fun h7 => ?_) (fun h7 => ?_)
            · skip
              have h7' := h7; (try simp only [bb] at h7')
              refine w_seq ?_
              refine w_drawn 4 [3] (fun e => at_ e (es.length + 2) = some (.row s7 29 6 [(catR (r.args.drop 1)).cells]) ∧ at_ e (es.length + 3) = some (.row s8 29 6 [(catR [(stepX B (r.args[0]'(by omega)) c), (catR (r.args.drop 1))]).cells])) mixed (by kernel_rfl) ⟨(by first | exact at_hit _ _ | exact at_miss _ (at_hit _ _) | exact at_miss _ (at_miss _ (at_hit _ _)) | exact at_miss _ (at_miss _ (at_miss _ (at_hit _ _)))), (by first | exact at_hit _ _ | exact at_miss _ (at_hit _ _) | exact at_miss _ (at_miss _ (at_hit _ _)) | exact at_miss _ (at_miss _ (at_miss _ (at_hit _ _))))⟩ ?_
              refine q1 8 (hg := rfl) (hu := rfl) (h := by rintro f _ hG; exact p_loadp ty_29 (a := .agg (catR [(stepX B (r.args[0]'(by omega)) c), (catR (r.args.drop 1))]).cells) ⟨rfl, rfl⟩ (he := ⟨hG.2, fun _ => rfl⟩) (hr := rfl) (hl := Nat.le_refl 6) (ha := rfl)) (k := ?_)
              refine q1 7 (hg := rfl) (hu := rfl) (h := by rintro f _ hG; exact p_loadp ty_29 (a := .agg (catR (r.args.drop 1)).cells) ⟨rfl, rfl⟩ (he := ⟨hG.1, fun _ => rfl⟩) (hr := rfl) (hl := Nat.le_refl 6) (ha := rfl)) (k := ?_)
              refine q1 1 (hg := rfl) (hu := rfl) (h := by rintro f _ hG; exact p_move ⟨rfl, rfl⟩) (k := ?_)
              refine q_end ?_
              refine m2 71 72 (hu := rfl) (h := fun f => p_callr en_66 (ih (catR (r.args.drop 1)) _ hqn u1 u2) ?_)
              refine ⟨_, rfl, ⟨(by first | exact at_hit _ _ | exact at_miss _ (at_hit _ _) | exact at_miss _ (at_miss _ (at_hit _ _)) | exact at_miss _ (at_miss _ (at_miss _ (at_hit _ _)))), (by first | exact at_hit _ _ | exact at_miss _ (at_hit _ _) | exact at_miss _ (at_miss _ (at_hit _ _)) | exact at_miss _ (at_miss _ (at_miss _ (at_hit _ _))))⟩, ?_⟩
              refine m_end ?_
              refine l_cons rfl (p_buildList sl_27 ze_29 (rows := [(catR [(stepX B (r.args[0]'(by omega)) c), (catR (r.args.drop 1))]).cells, (stepX B (catR (r.args.drop 1)) c).cells]) ?_ (hr := rfl))
              refine l_cons rfl (p_callr en_40 (refAlt [(catR [(stepX B (r.args[0]'(by omega)) c), (catR (r.args.drop 1))]), stepX B (catR (r.args.drop 1)) c] (pair_ok d1 b1) (by rw [pair_nodes]; omega)) ?_)
              refine l_cons rfl (p_store ty_29 ?_)
              refine l_nil ?_
              refine k_seq_normal ?_
              refine w_ret ?_
              refine k_seq_ret ?_
              refine k_blk_ret ?_
              refine k_seq_ret ?_
              rw [stepX_4 (by omega), stepC_yes hl0 (by simp_all)]
              exact retc rfl ty_29 subx ⟨rfl, rfl⟩
            · skip
              have h7' := h7; (try simp only [bb] at h7')
              refine w_skip ?_
              refine k_seq_normal ?_
              refine w_seq ?_
              refine w_region ?_
              refine l_cons rfl (p_loadp ty_29 ?_)
              refine l_cons rfl (p_store ty_29 ?_)
              refine l_nil ?_
              refine k_seq_normal ?_
              refine w_ret ?_
              refine k_blk_ret ?_
              refine k_seq_ret ?_
              rw [stepX_4 (by omega), stepC_no hl0 (by simp_all)]
              exact retc rfl ty_29 subx ⟨rfl, rfl⟩
        · skip
          have h6' := h6; (try simp only [bb] at h6')
          refine w_skip ?_
          refine k_blk_normal ?_
          refine k_seq_normal ?_
          refine w_seq ?_
          refine w_region ?_
          refine l_cons rfl (p_callr en_84 (refNone) ?_)
          refine l_cons rfl (p_store ty_29 ?_)
          refine l_nil ?_
          refine k_seq_normal ?_
          refine w_ret ?_
          first
          | (rw [stepX_3 (by omega), if_neg (by rw [show r.set.hasI c = false from h2']; decide)]
             exact retc rfl ty_29 subx ⟨rfl, rfl⟩)
          | (rw [stepX_no ⟨by omega, by omega, by omega, by omega⟩]
             exact retc rfl ty_29 subx ⟨rfl, rfl⟩)
end
section
/-! ### what a step says -/
/-! ### whether anything is said at all -/
end
set_option maxRecDepth 8000
section
open Go.RowKit Go.Proofs
theorem may0 {x : Rx} (h : mayR x = 0) : x.nodes ≤ 400 := by
 unfold mayR at h
 split at h
 ·omega
 ·omega
theorem langMade_walk {w0 : World} (hT : Tab w0) (a c : List Int) (b : Int) (ha : bytesOk a) (hc : bytesOk c) (hb : 0 ≤ b ∧ b < 256) : ACalls Tryd.prog w0 16 [bytesAV a, bytesAV c, .int .u8 b] [] fun v es' => v = .bool true := by
 unfold bytesAV
 refine calls3 (N := 59) Tryd.func16 rfl rfl (by decide) ?_
 refine w_seq ?_
 refine w_region ?_
 refine l_cons rfl (p_assign ?_)
 refine l_nil ?_
 refine k_seq_normal ?_
 refine w_seq ?_
 refine w_seq ?_
 refine w_region ?_
 refine l_cons rfl (p_callr en_57 (begun8_walk) ?_)
 refine l_cons rfl (p_not ?_)
 refine l_nil ?_
 refine k_seq_normal ?_
 refine w_f rfl ?_
 refine w_skip ?_
 refine k_seq_normal ?_
 refine w_seq ?_
 refine w_seq ?_
 refine w_region ?_
 refine l_cons rfl (p_move ?_)
 refine l_cons rfl (p_lenl sl_22 ?_)
 refine l_cons rfl (p_cmp ?_)
 refine l_cons rfl (p_move ?_)
 refine g_b rfl (fun h1 => ?_) (fun h1 => ?_)
 ·skip
  have h1' := h1; (try simp only [bb] at h1')
  refine (p_move ?_)
  refine g_y rfl h1 (p_lenl sl_22 ?_)
  refine g_y rfl h1 (p_cmp ?_)
  refine l_cons rfl (p_pickf h1 ?_)
  refine l_nil ?_
  refine k_seq_normal ?_
  refine w_b (fun h2 => ?_) (fun h2 => ?_)
  ·skip
   have h2' := h2; (try simp only [bb] at h2')
   refine w_seq ?_
   refine w_region ?_
   refine l_cons rfl (p_assign ?_)
   refine l_nil ?_
   refine k_seq_normal ?_
   refine w_ret ?_
   refine k_seq_ret ?_
   exact ret1 rfl ev1 (sub_of (es := []) fun _ h => absurd h (Nat.not_lt_zero _)) (rfl)
  ·skip
   have h2' := h2; (try simp only [bb] at h2')
   refine w_skip ?_
   refine k_seq_normal ?_
   refine w_seq ?_
   refine w_region ?_
   refine l_cons rfl (p_move ?_)
   refine l_cons rfl (p_call en_24 ((made_walk a (by omega) ha).mono ?_))
   rintro _ es1 ⟨s40, rfl, rfl⟩
   refine l_cons rfl (p_call en_25 ((Rx_walk (PK.mk' (n := 0) (Nat.zero_le _) ha (by omega) (at_hit _ _))).mono ?_))
   rintro _ es2 ⟨rfl, hgx⟩
   obtain ⟨ox, -, nx⟩ := pRx_ok 9 (q := a.drop 0) (fun e he => ha e (List.mem_of_mem_drop he))
   have tx := pRx_tidy 9 (q := a.drop 0) (fun e he => ha e (List.mem_of_mem_drop he))
   have px := pRx_plain 9 (q := a.drop 0) (fun e he => ha e (List.mem_of_mem_drop he))
   generalize (pRx 9 (a.drop 0)).1 = x at ox nx tx px ⊢
   have e10 : 2 ^ (9 + 1) = 1024 := rfl
   refine l_cons rfl (p_move ?_)
   refine l_cons rfl (p_call en_24 ((made_walk c (by omega) hc).mono ?_))
   rintro _ es3 ⟨s43, rfl, rfl⟩
   refine l_cons rfl (p_call en_26 ((word_walk 12 (by omega) (PK.mk' (n := 0) (Nat.zero_le _) hc (by omega) (at_hit _ _))).mono ?_))
   rintro _ es4 ⟨rfl, q4, hgw⟩
   obtain ⟨hw, hwl⟩ := pWord_ok (most := 12) (q := c.drop 0) (fun x hx => hc x (List.mem_of_mem_drop hx))
   generalize pWord 12 (c.drop 0) = w at hw hwl ⊢
   refine l_cons rfl (p_alloc ze_29 fun s7 => ?_)
   refine l_cons rfl (p_store ty_29 ?_)
   refine l_cons rfl (p_assign ?_)
   refine l_nil ?_
   refine k_seq_normal ?_
   refine w_seq ?_
   refine w_seq ?_
   refine w_region ?_
   refine l_cons rfl (p_loadp ty_29 ?_)
   refine l_cons rfl (p_callr en_28 (refMayR x (by omega) ox) ?_)
   refine l_cons rfl (p_cmp ?_)
   refine l_nil ?_
   refine k_seq_normal ?_
   refine w_b (fun h3 => ?_) (fun h3 => ?_)
   ·skip
    have h3' := h3; (try simp only [bb] at h3')
    refine w_seq ?_
    refine w_region ?_
    refine l_cons rfl (p_assign ?_)
    refine l_nil ?_
    refine k_seq_normal ?_
    refine w_ret ?_
    refine k_seq_ret ?_
    exact ret1 rfl ev1 (sub_of (es := []) fun _ h => absurd h (Nat.not_lt_zero _)) (rfl)
   ·skip
    have h3' := h3; (try simp only [bb] at h3')
    refine w_skip ?_
    refine k_seq_normal ?_
    refine w_seq ?_
    have hn4 := may0 (x := x) (by omega)
    refine w_region ?_
    refine l_cons rfl (p_loadp ty_29 ?_)
    refine l_cons rfl (p_callr en_63 (refCopy _ x _ (Nat.le_refl _) (by omega)) ?_)
    refine l_cons rfl (p_alloc ze_29 fun s9 => ?_)
    refine l_cons rfl (p_store ty_29 ?_)
    refine l_nil ?_
    refine k_seq_normal ?_
    refine w_seq ?_
    refine w_drawn 26 [] (fun e => e = _) mixed (by kernel_rfl) rfl ?_
    refine q1 7 (hg := rfl) (hu := rfl) (h := by rintro f _ rfl; exact p_loadp ty_29 ⟨rfl, rfl⟩) (k := ?_)
    refine q1 8 (hg := rfl) (hu := rfl) (h := by rintro f _ rfl; exact p_move ⟨rfl, rfl⟩) (k := ?_)
    refine q2 31 32 (hg := rfl) (hu := rfl) (h := by rintro f _ rfl; exact p_callr en_58 (In_walk x w ox hw (by omega)) ⟨rfl, rfl⟩) (k := ?_)
    refine q1 7 (hg := rfl) (hu := rfl) (h := by rintro f _ rfl; exact p_loadp ty_29 ⟨rfl, rfl⟩) (k := ?_)
    refine q1 8 (hg := rfl) (hu := rfl) (h := by rintro f _ rfl; exact p_move ⟨rfl, rfl⟩) (k := ?_)
    refine q2 34 35 (hg := rfl) (hu := rfl) (h := by rintro f _ rfl; exact p_callr en_32 (refIn x w ox hw (by omega)) ⟨rfl, rfl⟩) (k := ?_)
    refine q2 33 36 (hg := rfl) (hu := rfl) (h := by rintro f _ rfl; exact p_eqb ub_4 (b := true) ⟨rfl, rfl⟩ (hb := by cases inR x w <;> rfl)) (k := ?_)
    refine q1 37 (hg := rfl) (hu := rfl) (h := by rintro f _ rfl; exact p_move ⟨rfl, rfl⟩) (k := ?_)
    refine qy1 7 (hg := rfl) (hw := rfl) (hu := rfl) (h := by rintro f _ rfl; exact p_loadp ty_29 ⟨rfl, rfl⟩) (k := ?_)
    refine qy1 39 (hg := rfl) (hw := rfl) (hu := rfl) (h := by rintro f _ rfl; exact p_callr en_61 (First_walk _ x _ (Nat.le_refl _) (by omega) ox) ⟨rfl, rfl⟩) (k := ?_)
    refine qy1 7 (hg := rfl) (hw := rfl) (hu := rfl) (h := by rintro f _ rfl; exact p_loadp ty_29 ⟨rfl, rfl⟩) (k := ?_)
    refine qy1 41 (hg := rfl) (hw := rfl) (hu := rfl) (h := by rintro f _ rfl; exact p_callr en_62 (refFirst _ x _ (Nat.le_refl _) (by omega) ox) ⟨rfl, rfl⟩) (k := ?_)
    refine qy2 40 42 (hg := rfl) (hw := rfl) (hu := rfl) (h := by rintro f _ rfl; exact p_eqa ai_26 (b := true) ⟨rfl, rfl⟩ (hb := by rw [eqA]; simp)) (k := ?_)
    refine q2 38 43 (hg := rfl) (hu := rfl) (h := by rintro f _ rfl; exact p_pickt rfl ⟨rfl, rfl⟩) (k := ?_)
    refine q1 44 (hg := rfl) (hu := rfl) (h := by rintro f _ rfl; exact p_move ⟨rfl, rfl⟩) (k := ?_)
    refine qy1 7 (hg := rfl) (hw := rfl) (hu := rfl) (h := by rintro f _ rfl; exact p_loadp ty_29 ⟨rfl, rfl⟩) (k := ?_)
    refine qy1 2 (hg := rfl) (hw := rfl) (hu := rfl) (h := by rintro f _ rfl; exact p_move ⟨rfl, rfl⟩) (k := ?_)
    refine qy2 46 47 (hg := rfl) (hw := rfl) (hu := rfl) (h := by rintro f _ rfl; exact p_callr en_65 (rxStep hT hb x.nodes x _ (Nat.le_refl _) (by omega) ox px) ⟨rfl, rfl⟩) (k := ?_)
    refine qy1 9 (hg := rfl) (hw := rfl) (hu := rfl) (h := by rintro f _ rfl; exact p_loadp ty_29 ⟨rfl, rfl⟩) (k := ?_)
    refine qy1 2 (hg := rfl) (hw := rfl) (hu := rfl) (h := by rintro f _ rfl; exact p_move ⟨rfl, rfl⟩) (k := ?_)
    refine qy2 49 50 (hg := rfl) (hw := rfl) (hu := rfl) (h := by rintro f _ rfl; exact p_callr en_66 (refStep5 hb x.nodes x _ (Nat.le_refl _) (by omega) ox px) ⟨rfl, rfl⟩) (k := ?_)
    refine qy2 48 51 (hg := rfl) (hw := rfl) (hu := rfl) (h := by rintro f _ rfl; exact p_callr en_64 ((refSame _ (stepX x.nodes x b) (stepX x.nodes x b) _ (Nat.le_refl _)).mono fun v es h => by rw [(Rx.same_iff (stepX x.nodes x b) (stepX x.nodes x b)).2 rfl] at h; exact h) ⟨rfl, rfl⟩) (k := ?_)
    refine q2 45 52 (hg := rfl) (hu := rfl) (h := by rintro f _ rfl; exact p_pickt rfl ⟨rfl, rfl⟩) (k := ?_)
    refine q1 53 (hg := rfl) (hu := rfl) (h := by rintro f _ rfl; exact p_move ⟨rfl, rfl⟩) (k := ?_)
    refine qy1 7 (hg := rfl) (hw := rfl) (hu := rfl) (h := by rintro f _ rfl; exact p_loadp ty_29 ⟨rfl, rfl⟩) (k := ?_)
    refine qy1 9 (hg := rfl) (hw := rfl) (hu := rfl) (h := by rintro f _ rfl; exact p_loadp ty_29 ⟨rfl, rfl⟩) (k := ?_)
    refine q_end ?_
    refine m_end ?_
    refine g_y rfl rfl (p_callr en_64 ((refSame _ x x _ (Nat.le_refl _)).mono fun v es h => by rw [(Rx.same_iff x x).2 rfl] at h; exact h) ?_)
    refine l_cons rfl (p_pickt rfl ?_)
    refine l_cons rfl (p_assign ?_)
    refine l_nil ?_
    refine k_seq_normal ?_
    refine w_ret ?_
    exact ret1 rfl ev1 (sub_of (es := []) fun _ h => absurd h (Nat.not_lt_zero _)) (by first | rfl | (simp_all; done))
 ·skip
  have h1' := h1; (try simp only [bb] at h1')
  refine g_n rfl h1 ?_
  refine g_n rfl h1 ?_
  refine l_cons rfl (p_pickt h1 ?_)
  refine l_nil ?_
  refine k_seq_normal ?_
  refine w_t rfl ?_
  refine w_seq ?_
  refine w_region ?_
  refine l_cons rfl (p_assign ?_)
  refine l_nil ?_
  refine k_seq_normal ?_
  refine w_ret ?_
  refine k_seq_ret ?_
  exact ret1 rfl ev1 (sub_of (es := []) fun _ h => absurd h (Nat.not_lt_zero _)) (rfl)
end
section
open Go.RowKit Go.Proofs Go.Proofs.YtfdgbghlanbddaaDoor Go.Deep
/-! ### what comes in -/
def start (W : World) : Core := ⟨W, fun _ => none, 0, fun b => b < W.heap.size⟩
theorem ok_start (W : World) : Ok W (start W) [] :=
 ⟨Below.refl _ _, fun b hb => hb, fun b hb => hb, fun id x h => by simp [at_] at h, fun i j s e sz rows s' e' sz' rows' g cap cap' h => by simp [at_] at h, fun i j s kvs s' kvs' g cap cap' h => by simp [at_] at h⟩
theorem bulk_one {H : Type} (d : DataW H) : 1 ≤ Rows.uptoBulk d := by
 cases d with
 | lit l => cases l <;> simp [Rows.uptoBulk]
 | nil => simp [Rows.uptoBulk]
 | ptr d => simp [Rows.uptoBulk]
 | slice elems spare => simp [Rows.uptoBulk]
 | agg parts => simp [Rows.uptoBulk]
 | iface t d => simp [Rows.uptoBulk]
 | map entries => simp [Rows.uptoBulk]
 | held h => simp [Rows.uptoBulk]
theorem bulk_part {H : Type} {d : DataW H} {l : List (DataW H)} (h : d ∈ l) : Rows.uptoBulk d ≤ Rows.uptoBulkAll l := by
 induction l with
 | nil => cases h
 | cons x r ih =>
  simp only [Rows.uptoBulkAll]
  cases List.mem_cons.1 h with
  | inl e => subst e; omega
  | inr e => have := ih e; omega
theorem bulk_len {H : Type} (l : List (DataW H)) : l.length ≤ Rows.uptoBulkAll l := by
 induction l with
 | nil => simp [Rows.uptoBulkAll]
 | cons x r ih => have := bulk_one x; simp only [Rows.uptoBulkAll, List.length_cons]; omega

theorem repRows_of {c : Core} {m : Option (List Ent)} {sz : Nat} : ∀ {rows : List (List AV)} {vs : List Value}, vs.length = rows.length * sz → (∀ i r, rows[i]? = some r → r.length = sz ∧ Reps c m r ((vs.drop (i * sz)).take sz)) → (∀ v ∈ vs, v.oneCell' = true) → RepRows c m sz rows vs
 | [], vs, hl, _, _ => by
  simp only [List.length_nil, Nat.zero_mul] at hl
  simp only [RepRows]
  exact List.length_eq_zero_iff.1 hl
 | r :: rs, vs, hl, h, ho => by
  simp only [RepRows]
  have h0 := h 0 r rfl
  simp only [Nat.zero_mul, List.drop_zero] at h0
  refine ⟨vs.take sz, vs.drop sz, (List.take_append_drop _ _).symm, h0.1, h0.2, fun v hv => ho v (List.mem_of_mem_take hv), repRows_of ?_ (fun i r' hr => ?_) fun v hv => ho v (List.mem_of_mem_drop hv)⟩
  ·rw [List.length_drop, hl, List.length_cons, Nat.succ_mul]
   omega
  ·have := h (i + 1) r' (by simpa using hr)
   rw [List.drop_drop]
   rw [show sz + i * sz = (i + 1) * sz by rw [Nat.succ_mul]; omega]
   exact this

/-- What a type's data are told al'. -/
def RDB {α : Type} (B : Nat) (P : Program) (W : World) (t : TypeId) (sz : Nat) (en : α → List AV) (Q : α → Prop) : Prop :=
 ∀ (H : Type) (enc : TypeId × Value → H) (n : Nat) (cs : List Value) (x : DataW H × List MemPlace), DataW.trod enc P W 0 (fun _ => true) true n t cs = some x → Rows.uptoBulk x.1 ≤ B →
  ∃ a : α, Q a ∧ Reps (start W) none (en a) cs ∧ (en a).length = sz ∧ ∀ v ∈ cs, v.oneCell' = true
def RD {α : Type} (P : Program) (W : World) (t : TypeId) (sz : Nat) (en : α → List AV) (Q : α → Prop) : Prop := RDB 1048576 P W t sz en Q
theorem RDB.mono {α : Type} {B B' : Nat} {P : Program} {W : World} {t : TypeId} {sz : Nat} {en : α → List AV} {Q : α → Prop} (h : RDB B P W t sz en Q) (hB : B' ≤ B) : RDB B' P W t sz en Q := fun H enc n cs x hx hb => h H enc n cs x hx (Nat.le_trans hb hB)
theorem addr_add (a : Addr) (p q : Nat) : (a.add p).add q = a.add (p + q) := by
 unfold Addr.add
 by_cases hp : p = 0
 ·subst hp; simp
 ·by_cases hq : q = 0
  ·subst hq; simp [hp]
  ·simp [hp, hq, Nat.add_assoc]
theorem cell_at {W : World} {a : Addr} {v : Value} (h : W.cell? a = some v) : a.spot = none ∧ a.block < W.heap.size := by
 unfold World.cell? at h
 split at h
 ·rename_i hb
  constructor
  ·cases hs : a.spot with
   | none => rfl
   | some k => rw [hs] at h; simp at h
  ·exact (Array.getElem?_eq_some_iff.1 hb).1
 ·cases h
theorem rd_int {P : Program} {W : World} {t : TypeId} {k : IntKind} (ht : P.underlying t = some (.int k)) : RD P W t 1 (fun n : Int => [AV.int k n]) (fun n => (Lit.int k n).wf = true) := by
 intro H enc n cs x h hb
 obtain ⟨m, rfl, rfl, hw⟩ := DataW.trod_int ht h
 exact ⟨m, hw, by simp only [Reps, Rep]; exact ⟨_, _, rfl, rfl, rfl⟩, rfl, by simp [Value.oneCell']⟩
theorem rd_sliceB {α : Type} [Inhabited α] {B : Nat} (hB : B ≤ 1048575) {P : Program} {W : World} {t e : TypeId} {sz : Nat} {en : α → List AV} {Q : α → Prop} (ht : P.underlying t = some (.slice e)) (hc : P.cellsOf e = sz) (hsz : 0 < sz) (he : RDB B P W e sz en Q) :
  RDB (B + 1) P W t 1 (fun l : List α => [AV.list sz (l.map en)]) (fun l => ∀ a ∈ l, Q a) := by
 intro H enc n cs x h hb
 rcases open_slice ht h with ⟨rfl, rfl⟩ | ⟨a, len, cap, m, n', D, Pl, rfl, _, hlc, _, hm, rfl, hi⟩
 ·refine ⟨[], by simp, ?_, rfl, by simp [Value.oneCell']⟩
  simp only [Reps, Rep, List.map_nil]
  exact ⟨_, _, rfl, ⟨none, 0, [], rfl, Nat.le_refl _, Nat.zero_le _, by simp only [RepRows], fun e => absurd rfl e⟩, rfl⟩
 ·simp only [if_true] at hm
  subst hm
  simp only [Rows.uptoBulk] at hb
  have hlen : len ≤ 1048576 := by
   have := bulk_len ((List.range len).map D)
   simp only [List.length_map, List.length_range] at this
   omega
  rw [hc] at hi
  have hA : ∀ i, i < len → ∃ b : α, Q b ∧ (en b).length = sz ∧ ∃ cs', W.cells? 0 (a.add (i * sz)) sz = some cs' ∧ Reps (start W) none (en b) cs' ∧ ∀ v ∈ cs', v.oneCell' = true := by
   intro i hil
   obtain ⟨cs', h1, h2⟩ := hi i (by omega)
   have hbi : Rows.uptoBulk (D i) ≤ B := by
    have := bulk_part (l := (List.range len).map D) (List.mem_map.2 ⟨i, List.mem_range.2 hil, rfl⟩)
    omega
   obtain ⟨b, hQ, hr, hl, ho⟩ := he H enc n' cs' (D i, Pl i) h2 hbi
   exact ⟨b, hQ, hl, cs', h1, hr, ho⟩
  obtain ⟨A, hA⟩ := choose_lt hA
  have hsome : ∀ i j, i < len → j < sz → ∃ v, W.cell? (a.add (i * sz + j)) = some v := by
   intro i j hil hj
   obtain ⟨_, _, cs', h1, _, _⟩ := hA i hil
   obtain ⟨_, hl, hcell⟩ := World.cells?_some h1
   have := hcell j hj
   rw [addr_add, List.getElem?_eq_getElem (by omega)] at this
   exact ⟨_, this⟩
  refine ⟨(List.range len).map A, fun b hb => ?_, ?_, rfl, by simp [Value.oneCell']⟩
  ·obtain ⟨i, hil, rfl⟩ := List.mem_map.1 hb
   exact (hA i (List.mem_range.1 hil)).1
  ·let vs : List Value := (List.range (len * sz)).map fun j => (W.cell? (a.add j)).getD undef
   have hget : ∀ j, j < len * sz → W.cell? (a.add j) = vs[j]? := by
    intro j hj
    have hdm := Nat.div_add_mod j sz
    obtain ⟨v, hv⟩ := hsome (j / sz) (j % sz) (by rw [Nat.div_lt_iff_lt_mul hsz]; exact hj) (Nat.mod_lt _ hsz)
    rw [show j / sz * sz + j % sz = j by rw [Nat.mul_comm]; exact hdm] at hv
    simp only [vs, List.getElem?_map, List.getElem?_range hj, Option.map_some, hv, Option.getD_some]
   have hrow : ∀ i, i < len → ∃ cs', (vs.drop (i * sz)).take sz = cs' ∧ Reps (start W) none (en (A i)) cs' ∧ ∀ v ∈ cs', v.oneCell' = true := by
    intro i hil
    obtain ⟨_, _, cs', h1, h2, h3⟩ := hA i hil
    obtain ⟨_, hl, hcell⟩ := World.cells?_some h1
    refine ⟨cs', ?_, h2, h3⟩
    refine List.ext_getElem? fun j => ?_
    rw [List.getElem?_take]
    by_cases hj : j < sz
    ·rw [if_pos hj, List.getElem?_drop, ← hcell j hj, addr_add]
     have : i * sz + j < len * sz := by
      have : (i + 1) * sz ≤ len * sz := Nat.mul_le_mul_right _ hil
      rw [Nat.succ_mul] at this
      omega
     exact (hget _ this).symm
    ·rw [if_neg hj, List.getElem?_eq_none (by omega)]
   have hone : ∀ v ∈ vs, v.oneCell' = true := by
    intro v hv
    obtain ⟨j, hj⟩ := List.mem_iff_getElem?.1 hv
    have hjl : j < len * sz := by
     have := (List.getElem?_eq_some_iff.1 hj).1
     simpa [vs] using this
    have hdm := Nat.div_add_mod j sz
    have hil : j / sz < len := by rw [Nat.div_lt_iff_lt_mul hsz]; exact hjl
    obtain ⟨cs', h1, _, h3⟩ := hrow (j / sz) hil
    refine h3 v (List.mem_of_getElem? (i := j % sz) ?_)
    rw [← h1, List.getElem?_take, if_pos (Nat.mod_lt _ hsz), List.getElem?_drop, show j / sz * sz + j % sz = j by rw [Nat.mul_comm]; exact hdm]
    exact hj
   have hrr : RepRows (start W) none sz (((List.range len).map A).map en) vs := by
    refine repRows_of (by simp [vs]) (fun i r hr => ?_) hone
    simp only [List.getElem?_map] at hr
    by_cases hil : i < len
    ·rw [List.getElem?_range hil] at hr
     simp only [Option.map_some, Option.some.injEq] at hr
     subst hr
     obtain ⟨cs', h1, h2, _⟩ := hrow i hil
     rw [h1]
     exact ⟨(hA i hil).2.1, h2⟩
    ·rw [List.getElem?_eq_none (by simpa using hil)] at hr
     cases hr
   simp only [Reps, Rep]
   refine ⟨_, _, rfl, ⟨some a, m, vs, by simp, by simpa using hlc, by simp [most]; omega, hrr, fun hne => ?_⟩, rfl⟩
   have hpos : 0 < len * sz := by
    rcases Nat.eq_zero_or_pos (len * sz) with h0 | h0
    ·exact absurd (List.length_eq_zero_iff.1 (by simp [vs, h0])) hne
    ·exact h0
   have hlen0 : 0 < len := Nat.pos_of_mul_pos_right hpos
   obtain ⟨v, hv⟩ := hsome 0 0 hlen0 hsz
   have hat := cell_at hv
   have ha0 : a.add (0 * sz + 0) = a := by simp [Addr.add]
   rw [ha0] at hat
   obtain ⟨b, o, sp⟩ := a
   simp only at hat
   obtain ⟨rfl, hbl⟩ := hat
   refine ⟨b, o, rfl, hbl, fun j hj => ?_⟩
   have := hget j (by simpa [vs] using hj)
   rw [← this]
   show W.cell? _ = W.cell? _
   congr 1
   unfold Addr.add
   split
   ·rename_i h0; subst h0; rfl
   ·rfl
theorem rd_slice {α : Type} [Inhabited α] {P : Program} {W : World} {t e : TypeId} {sz : Nat} {en : α → List AV} {Q : α → Prop} (ht : P.underlying t = some (.slice e)) (hc : P.cellsOf e = sz) (hsz : 0 < sz) (he : RD P W e sz en Q) :
  RD P W t 1 (fun l : List α => [AV.list sz (l.map en)]) (fun l => ∀ a ∈ l, Q a) := rd_sliceB (B := 1048575) (Nat.le_refl _) ht hc hsz (RDB.mono he (by omega))
end
set_option maxRecDepth 8000
section
open Go.RowKit Go.Proofs Go.Proofs.YtfdgbghlanbddaaDoor Go.Deep
theorem ce3 : Tryd.prog.cellsOf 3 = 1 := by kernel_rfl
theorem ce5 : Tryd.prog.cellsOf 5 = 1 := by kernel_rfl
theorem ce24 : Tryd.prog.cellsOf 24 = 1 := by kernel_rfl
theorem ce26 : Tryd.prog.cellsOf 26 = 4 := by kernel_rfl
theorem ce27 : Tryd.prog.cellsOf 27 = 1 := by kernel_rfl
theorem ce29 : Tryd.prog.cellsOf 29 = 6 := by kernel_rfl
theorem ce34 : Tryd.prog.cellsOf 34 = 1 := by kernel_rfl
theorem ce36 : Tryd.prog.cellsOf 36 = 3 := by kernel_rfl
theorem ce48 : Tryd.prog.cellsOf 48 = 1 := by kernel_rfl
theorem ce75 : Tryd.prog.cellsOf 75 = 6 := by kernel_rfl
def St.ok (s : St) : Prop := 0 ≤ s.w0 ∧ 0 ≤ s.w1 ∧ 0 ≤ s.w2 ∧ 0 ≤ s.w3
def Nf.ok (n : Nf) : Prop := ∀ s ∈ n.st, s.ok
instance : Inhabited St := ⟨⟨0, 0, 0, 0, 0, []⟩⟩
theorem wf_u64 {n : Int} (h : (Lit.int .u64 n).wf = true) : 0 ≤ n ∧ n < 18446744073709551616 := by
 simp only [Lit.wf, Bool.and_eq_true, decide_eq_true_eq] at h
 have h1 : IntKind.u64.min = 0 := by decide
 have h2 : IntKind.u64.max = 18446744073709551615 := by decide
 omega
theorem wf_u8 {n : Int} (h : (Lit.int .u8 n).wf = true) : 0 ≤ n ∧ n < 256 := by
 simp only [Lit.wf, Bool.and_eq_true, decide_eq_true_eq] at h
 have h1 : IntKind.u8.min = 0 := by decide
 have h2 : IntKind.u8.max = 255 := by decide
 omega
variable {W : World}
theorem rd_i64 : RD Tryd.prog W 3 1 (fun n : Int => [AV.int .i64 n]) (fun n => (Lit.int .i64 n).wf = true) := rd_int Tryd.underlying3
theorem rd_u8 : RD Tryd.prog W 5 1 (fun n : Int => [AV.int .u8 n]) (fun n => (Lit.int .u8 n).wf = true) := rd_int Tryd.underlying5
theorem rd_ints : RD Tryd.prog W 48 1 (fun l : List Int => [ints l]) (fun l => ∀ n ∈ l, (Lit.int .i64 n).wf = true) := rd_slice Tryd.underlying48 ce3 (by decide) rd_i64
theorem rd_bytes : RD Tryd.prog W 22 1 (fun l : List Int => [bytesAV l]) (fun l => ∀ n ∈ l, (Lit.int .u8 n).wf = true) := rd_slice Tryd.underlying22 ce5 (by decide) rd_u8
theorem rd_set : RD Tryd.prog W 26 4 W4.row W4.ok := by
 intro H enc n cs x h hb
 obtain ⟨xs, m, _, rfl, hl, hlen, hi⟩ := DataW.trod_array Tryd.underlying26 h
 rw [ce26] at hl
 rw [ce24] at hi
 have one : ∀ i (hi4 : i < 4), ∃ v : Int, (cs.drop i).take 1 = [.int .u64 v] ∧ 0 ≤ v ∧ v < 18446744073709551616 := by
  intro i hi4
  have h1 := hi i hi4
  rw [List.getElem?_eq_getElem (by omega), Nat.mul_one] at h1
  obtain ⟨v, h2, _, h3⟩ := DataW.trod_int Tryd.underlying24 h1
  exact ⟨v, h2, wf_u64 h3⟩
 obtain ⟨v0, e0, a0, b0⟩ := one 0 (by omega)
 obtain ⟨v1, e1, a1, b1⟩ := one 1 (by omega)
 obtain ⟨v2, e2, a2, b2⟩ := one 2 (by omega)
 obtain ⟨v3, e3, a3, b3⟩ := one 3 (by omega)
 match cs, hl with
 | [c0, c1, c2, c3], _ =>
  simp at e0 e1 e2 e3
  subst e0; subst e1; subst e2; subst e3
  refine ⟨⟨v0, v1, v2, v3⟩, ⟨a0, a1, a2, a3, b0, b1, b2, b3⟩, ?_, rfl, by simp [Value.oneCell']⟩
  simp only [W4.row, Reps, Rep]
  exact ⟨_, _, rfl, rfl, _, _, rfl, rfl, _, _, rfl, rfl, _, _, rfl, rfl, rfl⟩
theorem rd_st : RD Tryd.prog W 75 6 St.row St.ok := by
 intro H enc n cs x h hb
 obtain ⟨y0, y1, y2, m, rfl, hl, h0, h1, h2⟩ := trod_struct3 Tryd.underlying75 h
 rw [ce75] at hl
 simp only [ce26, ce3, ce48] at h0 h1 h2
 simp only [Rows.uptoBulk, Rows.uptoBulkAll] at hb
 obtain ⟨s, q0, r0, l0, o0⟩ := rd_set (W := W) H enc _ _ _ h0 (by omega)
 obtain ⟨k, q1, r1, l1, o1⟩ := rd_i64 (W := W) H enc _ _ _ h1 (by omega)
 obtain ⟨f, q2, r2, l2, o2⟩ := rd_ints (W := W) H enc _ _ _ h2 (by omega)
 refine ⟨⟨s.w0, s.w1, s.w2, s.w3, k, f⟩, ⟨q0.1, q0.2.1, q0.2.2.1, q0.2.2.2.1⟩, ?_, rfl, ?_⟩
 ·have := (r0.append r1).append r2
  have e : (cs.drop 0).take 4 ++ (cs.drop 4).take 1 ++ (cs.drop 5).take 1 = cs := by
   match cs, hl with
   | [c0, c1, c2, c3, c4, c5], _ => rfl
  rw [e] at this
  exact this
 ·match cs, hl with
  | [c0, c1, c2, c3, c4, c5], _ =>
   simp at o0 o1 o2
   simp [o0, o1, o2]
theorem rd_nf : RD Tryd.prog W 36 3 Nf.cells Nf.ok := by
 intro H enc n cs x h hb
 obtain ⟨y0, y1, y2, m, rfl, hl, h0, h1, h2⟩ := trod_struct3 Tryd.underlying36 h
 rw [ce36] at hl
 simp only [ce34, ce3] at h0 h1 h2
 simp only [Rows.uptoBulk, Rows.uptoBulkAll] at hb
 obtain ⟨s, q0, r0, l0, o0⟩ := rd_slice (W := W) Tryd.underlying34 ce75 (by decide) rd_st H enc _ _ _ h0 (by omega)
 obtain ⟨k, q1, r1, l1, o1⟩ := rd_i64 (W := W) H enc _ _ _ h1 (by omega)
 obtain ⟨f, q2, r2, l2, o2⟩ := rd_i64 (W := W) H enc _ _ _ h2 (by omega)
 refine ⟨⟨s, k, f⟩, q0, ?_, rfl, ?_⟩
 ·have := (r0.append r1).append r2
  have e : (cs.drop 0).take 1 ++ (cs.drop 1).take 1 ++ (cs.drop 2).take 1 = cs := by
   match cs, hl with
   | [c0, c1, c2], _ => rfl
  rw [e] at this
  exact this
 ·match cs, hl with
  | [c0, c1, c2], _ =>
   simp at o0 o1 o2
   simp [o0, o1, o2]

theorem wf_i64 {n : Int} (h : (Lit.int .i64 n).wf = true) : -9223372036854775808 ≤ n ∧ n < 9223372036854775808 := by
 simp only [Lit.wf, Bool.and_eq_true, decide_eq_true_eq] at h
 have h1 : IntKind.i64.min = -9223372036854775808 := by decide
 have h2 : IntKind.i64.max = 9223372036854775807 := by decide
 omega
/-! ### arguments -/
/-- A value of a type of one cell. -/
theorem arg_one {α : Type} {t : TypeId} {en : α → AV} {Q : α → Prop} (hr : RD Tryd.prog W t 1 (fun a => [en a]) Q) {H : Type} {enc : TypeId × Value → H} {v : Value} {d : DataW H} {ps : List MemPlace} (hv : ∀ cs, v ≠ .agg cs)
  (h : DataW.Trod enc Tryd.prog W 0 (fun _ => true) true t v d ps) (hb : Rows.uptoBulk d ≤ 1048576) : ∃ a : α, Q a ∧ Rep (start W) none (en a) v := by
 obtain ⟨n, h⟩ := h
 obtain ⟨a, q, r, _, _⟩ := hr H enc n _ _ h hb
 refine ⟨a, q, ?_⟩
 simp only [Reps] at r
 obtain ⟨v', vs', e, r, rfl⟩ := r
 have : v.cells.toList = [v] := by
  cases v <;> first | rfl | exact absurd rfl (hv _)
 rw [this] at e
 injection e with e _
 subst e
 exact r
/-- A struct. -/
theorem arg_agg {α : Type} {t : TypeId} {sz : Nat} {en : α → List AV} {Q : α → Prop} (hr : RD Tryd.prog W t sz en Q) {H : Type} {enc : TypeId × Value → H} {v : Value} {d : DataW H} {ps : List MemPlace} (hv : ∃ cs, v = .agg cs)
  (h : DataW.Trod enc Tryd.prog W 0 (fun _ => true) true t v d ps) (hb : Rows.uptoBulk d ≤ 1048576) : ∃ a : α, Q a ∧ Rep (start W) none (.agg (en a)) v := by
 obtain ⟨n, h⟩ := h
 obtain ⟨cs, rfl⟩ := hv
 obtain ⟨a, q, r, _, o⟩ := hr H enc n _ _ h hb
 refine ⟨a, q, ?_⟩
 simp only [Rep]
 exact ⟨cs, rfl, r, o⟩
end
section
open Go.RowKit Go.Proofs Go.Proofs.YtfdgbghlanbddaaDoor Go.Deep
/-! ### what comes in, and how great it is -/
def RDM {α : Type} (B : Nat) (P : Program) (W : World) (t : TypeId) (sz : Nat) (en : α → List AV) (μ : α → Nat) (Q : α → Prop) : Prop :=
 ∀ (H : Type) (enc : TypeId × Value → H) (n : Nat) (cs : List Value) (x : DataW H × List MemPlace), DataW.trod enc P W 0 (fun _ => true) true n t cs = some x → Rows.uptoBulk x.1 ≤ B →
  ∃ a : α, Q a ∧ μ a ≤ Rows.uptoBulk x.1 ∧ Reps (start W) none (en a) cs ∧ (en a).length = sz ∧ ∀ v ∈ cs, v.oneCell' = true
theorem sum_le {H : Type} : ∀ (n : Nat) (f : Nat → Nat) (D : Nat → DataW H), (∀ i, i < n → f i ≤ Rows.uptoBulk (D i)) → ((List.range n).map f).sum ≤ Rows.uptoBulkAll ((List.range n).map D)
 | 0, _, _, _ => by simp
 | n + 1, f, D, h => by
  have ih := sum_le n f D (fun i hi => h i (by omega))
  have happ : ∀ a b : List (DataW H), Rows.uptoBulkAll (a ++ b) = Rows.uptoBulkAll a + Rows.uptoBulkAll b := by
   intro a b
   induction a with
   | nil => simp [Rows.uptoBulkAll]
   | cons x y ih => simp only [List.cons_append, Rows.uptoBulkAll, ih]; omega
  rw [List.range_succ, List.map_append, List.map_append, List.sum_append, happ]
  have := h n (by omega)
  simp only [List.map_cons, List.map_nil, List.sum_cons, List.sum_nil, Rows.uptoBulkAll]
  omega
theorem nodesL_sum (l : List Rx) : (l.map fun r => 4 * r.nodes).sum = 4 * Rx.nodesL l := by
 induction l with
 | nil => simp [Rx.nodesL]
 | cons a t ih => simp only [List.map_cons, List.sum_cons, Rx.nodesL, ih]; omega
theorem rd_sliceM {α : Type} [Inhabited α] {B : Nat} (hB : B ≤ 1048575) {P : Program} {W : World} {t e : TypeId} {sz : Nat} {en : α → List AV} {μ : α → Nat} {Q : α → Prop} (ht : P.underlying t = some (.slice e)) (hc : P.cellsOf e = sz) (hsz : 0 < sz) (he : RDM B P W e sz en μ Q) :
  RDM (B + 1) P W t 1 (fun l : List α => [AV.list sz (l.map en)]) (fun l => (l.map μ).sum + 1) (fun l => ∀ a ∈ l, Q a) := by
 intro H enc n cs x h hb
 rcases open_slice ht h with ⟨rfl, rfl⟩ | ⟨a, len, cap, m, n', D, Pl, rfl, _, hlc, _, hm, rfl, hi⟩
 ·refine ⟨[], by simp, by simp [Rows.uptoBulk], ?_, rfl, by simp [Value.oneCell']⟩
  simp only [Reps, Rep, List.map_nil]
  exact ⟨_, _, rfl, ⟨none, 0, [], rfl, Nat.le_refl _, Nat.zero_le _, by simp only [RepRows], fun e => absurd rfl e⟩, rfl⟩
 ·simp only [if_true] at hm
  subst hm
  simp only [Rows.uptoBulk] at hb
  have hlen : len ≤ 1048576 := by
   have := bulk_len ((List.range len).map D)
   simp only [List.length_map, List.length_range] at this
   omega
  rw [hc] at hi
  have hA : ∀ i, i < len → ∃ b : α, Q b ∧ μ b ≤ Rows.uptoBulk (D i) ∧ (en b).length = sz ∧ ∃ cs', W.cells? 0 (a.add (i * sz)) sz = some cs' ∧ Reps (start W) none (en b) cs' ∧ ∀ v ∈ cs', v.oneCell' = true := by
   intro i hil
   obtain ⟨cs', h1, h2⟩ := hi i (by omega)
   have hbi : Rows.uptoBulk (D i) ≤ B := by
    have := bulk_part (l := (List.range len).map D) (List.mem_map.2 ⟨i, List.mem_range.2 hil, rfl⟩)
    omega
   obtain ⟨b, hQ, hmu, hr, hl, ho⟩ := he H enc n' cs' (D i, Pl i) h2 hbi
   exact ⟨b, hQ, hmu, hl, cs', h1, hr, ho⟩
  obtain ⟨A, hA⟩ := choose_lt hA
  have hsome : ∀ i j, i < len → j < sz → ∃ v, W.cell? (a.add (i * sz + j)) = some v := by
   intro i j hil hj
   obtain ⟨_, _, _, cs', h1, _, _⟩ := hA i hil
   obtain ⟨_, hl, hcell⟩ := World.cells?_some h1
   have := hcell j hj
   rw [addr_add, List.getElem?_eq_getElem (by omega)] at this
   exact ⟨_, this⟩
  refine ⟨(List.range len).map A, fun b hb => ?_, ?_, ?_, rfl, by simp [Value.oneCell']⟩
  ·obtain ⟨i, hil, rfl⟩ := List.mem_map.1 hb
   exact (hA i (List.mem_range.1 hil)).1
  ·have := sum_le len (fun i => μ (A i)) D (fun i hil => (hA i hil).2.1)
   simp only [List.map_map, Rows.uptoBulk]
   simp only [Function.comp_def]
   omega
  ·let vs : List Value := (List.range (len * sz)).map fun j => (W.cell? (a.add j)).getD undef
   have hget : ∀ j, j < len * sz → W.cell? (a.add j) = vs[j]? := by
    intro j hj
    have hdm := Nat.div_add_mod j sz
    obtain ⟨v, hv⟩ := hsome (j / sz) (j % sz) (by rw [Nat.div_lt_iff_lt_mul hsz]; exact hj) (Nat.mod_lt _ hsz)
    rw [show j / sz * sz + j % sz = j by rw [Nat.mul_comm]; exact hdm] at hv
    simp only [vs, List.getElem?_map, List.getElem?_range hj, Option.map_some, hv, Option.getD_some]
   have hrow : ∀ i, i < len → ∃ cs', (vs.drop (i * sz)).take sz = cs' ∧ Reps (start W) none (en (A i)) cs' ∧ ∀ v ∈ cs', v.oneCell' = true := by
    intro i hil
    obtain ⟨_, _, _, cs', h1, h2, h3⟩ := hA i hil
    obtain ⟨_, hl, hcell⟩ := World.cells?_some h1
    refine ⟨cs', ?_, h2, h3⟩
    refine List.ext_getElem? fun j => ?_
    rw [List.getElem?_take]
    by_cases hj : j < sz
    ·rw [if_pos hj, List.getElem?_drop, ← hcell j hj, addr_add]
     have : i * sz + j < len * sz := by
      have : (i + 1) * sz ≤ len * sz := Nat.mul_le_mul_right _ hil
      rw [Nat.succ_mul] at this
      omega
     exact (hget _ this).symm
    ·rw [if_neg hj, List.getElem?_eq_none (by omega)]
   have hone : ∀ v ∈ vs, v.oneCell' = true := by
    intro v hv
    obtain ⟨j, hj⟩ := List.mem_iff_getElem?.1 hv
    have hjl : j < len * sz := by
     have := (List.getElem?_eq_some_iff.1 hj).1
     simpa [vs] using this
    have hdm := Nat.div_add_mod j sz
    have hil : j / sz < len := by rw [Nat.div_lt_iff_lt_mul hsz]; exact hjl
    obtain ⟨cs', h1, _, h3⟩ := hrow (j / sz) hil
    refine h3 v (List.mem_of_getElem? (i := j % sz) ?_)
    rw [← h1, List.getElem?_take, if_pos (Nat.mod_lt _ hsz), List.getElem?_drop, show j / sz * sz + j % sz = j by rw [Nat.mul_comm]; exact hdm]
    exact hj
   have hrr : RepRows (start W) none sz (((List.range len).map A).map en) vs := by
    refine repRows_of (by simp [vs]) (fun i r hr => ?_) hone
    simp only [List.getElem?_map] at hr
    by_cases hil : i < len
    ·rw [List.getElem?_range hil] at hr
     simp only [Option.map_some, Option.some.injEq] at hr
     subst hr
     obtain ⟨cs', h1, h2, _⟩ := hrow i hil
     rw [h1]
     exact ⟨(hA i hil).2.2.1, h2⟩
    ·rw [List.getElem?_eq_none (by simpa using hil)] at hr
     cases hr
   simp only [Reps, Rep]
   refine ⟨_, _, rfl, ⟨some a, m, vs, by simp, by simpa using hlc, by simp [most]; omega, hrr, fun hne => ?_⟩, rfl⟩
   have hpos : 0 < len * sz := by
    rcases Nat.eq_zero_or_pos (len * sz) with h0 | h0
    ·exact absurd (List.length_eq_zero_iff.1 (by simp [vs, h0])) hne
    ·exact h0
   have hlen0 : 0 < len := Nat.pos_of_mul_pos_right hpos
   obtain ⟨v, hv⟩ := hsome 0 0 hlen0 hsz
   have hat := cell_at hv
   have ha0 : a.add (0 * sz + 0) = a := by simp [Addr.add]
   rw [ha0] at hat
   obtain ⟨b, o, sp⟩ := a
   simp only at hat
   obtain ⟨rfl, hbl⟩ := hat
   refine ⟨b, o, rfl, hbl, fun j hj => ?_⟩
   have := hget j (by simpa [vs] using hj)
   rw [← this]
   show W.cell? _ = W.cell? _
   congr 1
   unfold Addr.add
   split
   ·rename_i h0; subst h0; rfl
   ·rfl
section
variable {W : World}
theorem rd_rxM : ∀ B, B ≤ 1048576 → RDM B Tryd.prog W 29 6 Rx.cells (fun r => 4 * r.nodes) Rx.ok := by
 intro B
 induction B using Nat.strongRecOn with
 | _ B ih =>
  intro hB H enc n cs x h hb
  obtain ⟨y0, y1, y2, m, rfl, hl, h0, h1, h2⟩ := trod_struct3 Tryd.underlying29 h
  rw [ce29] at hl
  simp only [ce26, ce3, ce27] at h0 h1 h2
  simp only [Rows.uptoBulk, Rows.uptoBulkAll] at hb
  have b1 := bulk_one y0.1
  have b2 := bulk_one y1.1
  have b3 := bulk_one y2.1
  obtain ⟨k, q0, r0, l0, o0⟩ := rd_i64 (W := W) H enc _ _ _ h0 (by omega)
  obtain ⟨s, q1, r1, l1, o1⟩ := rd_set (W := W) H enc _ _ _ h1 (by omega)
  obtain ⟨l, q2, m2, r2, l2, o2⟩ := rd_sliceM (B := B - 2) (by omega) Tryd.underlying27 ce29 (by decide) (ih (B - 2) (by omega) (by omega)) H enc _ _ _ h2 (by omega)
  refine ⟨.mk k s l, ?_, ?_, ?_, rfl, ?_⟩
  ·simp only [Rx.ok, Rx.oks_iff]
   exact ⟨wf_i64 q0, q1, q2⟩
  ·simp only [Rows.uptoBulk, Rows.uptoBulkAll, Rx.nodes]
   simp only [nodesL_sum] at m2
   omega
  ·have := (r0.append r1).append r2
   have e : (cs.drop 0).take 1 ++ (cs.drop 1).take 4 ++ (cs.drop 5).take 1 = cs := by
    match cs, hl with
    | [c0, c1, c2, c3, c4, c5], _ => rfl
   rw [e] at this
   simp only [Rx.cells, Rx.kind, Rx.set, Rx.args, Rx.rows_eq]
   exact this
  ·match cs, hl with
   | [c0, c1, c2, c3, c4, c5], _ =>
    simp at o0 o1 o2
    simp [o0, o1, o2]
theorem arg_rx {H : Type} {enc : TypeId × Value → H} {v : Value} {d : DataW H} {ps : List MemPlace} (hv : ∃ cs, v = .agg cs)
  (h : DataW.Trod enc Tryd.prog W 0 (fun _ => true) true 29 v d ps) (hb : Rows.uptoBulk d ≤ 1048576) : ∃ r : Rx, (r.ok ∧ r.nodes ≤ 262144) ∧ Rep (start W) none (.agg r.cells) v := by
 obtain ⟨n, h⟩ := h
 obtain ⟨cs, rfl⟩ := hv
 obtain ⟨a, q, hm, r, _, o⟩ := rd_rxM 1048576 (Nat.le_refl _) H enc n _ _ h hb
 refine ⟨a, ⟨q, ?_⟩, ?_⟩
 ·simp only at hm; omega
 ·simp only [Rep]
  exact ⟨cs, rfl, r, o⟩
end
end
set_option maxRecDepth 8000
section
open Go.RowKit Go.Proofs Go.Proofs.YtfdgbghlanbddaaDoor Go.Deep Go.ChangeShapes Go.WideShapes Go.ChangeAt
theorem laidOut : laidOutB Tryd.prog = true := by kernel_rfl
def readsB (P : Program) (ts : List Nat) : Bool := ts.all fun t => P.readableRec t && decide (t < P.types.size)
theorem args_stay {H : Type} {enc : TypeId × Value → H} {P : Program} (hl : laidOutB P = true) {W W' : World} (hb : Below W.heap.size W W') : ∀ (ts : List TypeId) {vs : List Value} {ds : List (DataW H)} {ps : List MemPlace}, readsB P ts = true → (∀ p ∈ ps, p.block < W.heap.size) →
  DataW.TrodAll enc P W 0 (fun _ => true) true ts vs ds ps → DataW.TrodAll enc P W' 0 (fun b => decide (b < W.heap.size)) true ts vs ds ps := by
 intro ts
 induction ts with
 | nil =>
  intro vs ds ps _ _ h
  obtain ⟨rfl, rfl, rfl⟩ := trodAll_nil h
  exact trodAll_mk0
 | cons t ts ih =>
  intro vs ds ps hr hlt h
  obtain ⟨v, vs', d, ds', p, q, rfl, rfl, rfl, h0, h1⟩ := trodAll_cons h
  simp only [readsB, List.all_cons, Bool.and_eq_true, decide_eq_true_eq] at hr
  exact trodAll_cons_mk (Below.trod hl hr.1.1 hr.1.2 h0 hb (fun x hx => hlt x (by simp [hx]))) (ih hr.2 (fun x hx => hlt x (by simp [hx])) h1)
/-- What a law's contract gives: it answers true, all that was there is al' it was. -/
theorem law_post {fid : Nat} {f : Func} {s : ChangeSpec} {H : Type} {enc : TypeId × Value → H} {W : World} {args : Array Value} {ds gs : List (DataW H)} {before : List MemPlace} {avs : List AV}
  (hres : f.resultTypes = #[4]) (hvars : s.vars = []) (hr : readsB Tryd.prog f.params.toList = true) (hW : DataW.Whole enc Tryd.prog f.params.toList s.vars false W args.toList ds gs before)
  (h1 : (s.fn H (ds ++ gs)).results = [.lit (.bool true)]) (h2 : (s.fn H (ds ++ gs)).args = ds) (h3 : (s.fn H (ds ++ gs)).vars = [])
  (hc : ACalls Tryd.prog W fid avs [] fun r es' => r = .bool true) (hrep : Reps (start W) none avs args.toList) :
  Calls Tryd.prog fid args W fun e W' => ∃ v, e = .returned v ∧ s.post enc Tryd.prog f false true false false W args v W' := by
 refine (hc (start W) args (ok_start W) (hrep.up _)).mono fun e w' ⟨v, c', es', r, he, hw, _, ok, hv, hr'⟩ => ⟨v, he, ?_⟩
 subst hr'
 simp only [Rep] at hv
 subst hv
 subst hw
 have hb := ok.below
 have hW' := hW
 obtain ⟨p, q, hA, hV, rfl, _, _⟩ := hW
 rw [hvars] at hV
 obtain ⟨rfl, rfl⟩ := trodVars_none hV
 refine ⟨ds, [], p ++ [], [], p, [], hW', ?_, ?_, ?_, hb.frame _, fun h => by cases h⟩
 ·rw [hres, h1]
  exact trodAll_cons_mk (shut_bool Tryd.underlying4 _) trodAll_mk0
 ·rw [h2]
  exact args_stay laidOut hb _ hr (fun x hx => hW'.lt x (by simpa using hx)) hA
 ·rw [h3, hvars]
  rfl
theorem ownk : ownKnob Tryd.prog.godebug = none := by kernel_rfl
theorem bulk_of {H : Type} {l : List (DataW H)} (hk : Rows.uptoSmall H l = true) : Rows.uptoBulkAll l ≤ 1048576 := by simpa [Rows.uptoSmall] using hk
/-- What the types of the arguments say of their outermost form. -/
theorem okw_slice {W : World} {base : Nat} {t e : TypeId} {v : Value} (ht : Tryd.prog.underlying t = some (.slice e)) (h : Value.okWide Tryd.prog W .any base t v) : ∀ cs, v ≠ .agg cs := by
 rintro cs rfl
 simp [Value.okWide, ht, Cell.okWide, Cell.ok] at h
theorem okw_int {W : World} {base : Nat} {t : TypeId} {k : IntKind} {v : Value} (ht : Tryd.prog.underlying t = some (.int k)) (h : Value.okWide Tryd.prog W .any base t v) : ∀ cs, v ≠ .agg cs := by
 rintro cs rfl
 simp [Value.okWide, ht, Cell.okWide, Cell.ok] at h
theorem okw_agg {W : World} {base : Nat} {t : TypeId} {fs : Array Field} {v : Value} (ht : Tryd.prog.underlying t = some (.struct fs)) (h : Value.okWide Tryd.prog W .any base t v) : ∃ cs, v = .agg cs := by
 simp only [Value.okWide, ht] at h
 obtain ⟨cs, rfl, _⟩ := h
 exact ⟨cs, rfl⟩
/-- A world for the witness: the settled one, the table (block 0) holding what its initialiser lays. -/
noncomputable def table : Array Value := #[.int .u8 0, .int .u8 1, .int .u8 56, .int .u8 2, .int .u8 57, .int .u8 49, .int .u8 28, .int .u8 3, .int .u8 61, .int .u8 58, .int .u8 42, .int .u8 50, .int .u8 38, .int .u8 29, .int .u8 17, .int .u8 4, .int .u8 62, .int .u8 47, .int .u8 59, .int .u8 36, .int .u8 45, .int .u8 43, .int .u8 51, .int .u8 22, .int .u8 53, .int .u8 39, .int .u8 33, .int .u8 30, .int .u8 24, .int .u8 18, .int .u8 12, .int .u8 5, .int .u8 63, .int .u8 55, .int .u8 48, .int .u8 27, .int .u8 60, .int .u8 41, .int .u8 37, .int .u8 16, .int .u8 46, .int .u8 35, .int .u8 44, .int .u8 21, .int .u8 52, .int .u8 32, .int .u8 23, .int .u8 11, .int .u8 54, .int .u8 26, .int .u8 40, .int .u8 15, .int .u8 34, .int .u8 20, .int .u8 31, .int .u8 10, .int .u8 25, .int .u8 14, .int .u8 19, .int .u8 9, .int .u8 13, .int .u8 8, .int .u8 7, .int .u8 6]
noncomputable def laidWorld (os : Os) : World :=
 { World.holding Tryd.prog os ⟨#[], #[], []⟩ with heap := (World.holding Tryd.prog os ⟨#[], #[], []⟩).heap.modify 0 fun
   | .cells _ t frozen => .cells table t frozen
   | o => o }
end
set_option maxRecDepth 100000
section
open Go.Proofs Go.Proofs.YtfdgbghlanbddaaDoor
theorem tab_global : Tryd.prog.globalNamed "math/bits.deBruijn64tab" = some 0 := by kernel_rfl
theorem tab_type : (Tryd.prog.globals[0]?).map (·.type) = some 171 := by kernel_rfl
theorem tab_und : Tryd.prog.underlying 171 = some (.array 64 5) := by kernel_rfl
theorem tab_u8 : Tryd.prog.underlying 5 = some (.int .u8) := by kernel_rfl
theorem tab_c5 : Tryd.prog.cellsOf 5 = 1 := by kernel_rfl
theorem tab_c171 : Tryd.prog.cellsOf 171 = 64 := by kernel_rfl
theorem tab_data : (Rows.laid_math_bits_deBruijn64tab : DataW Unit) = Lib.tabData .u8 (Lib.deBruijn64tab.map Int.ofNat) := rfl
/-- The table is al' it was laid. -/
theorem tab_in {W : World} (h : laidMetH Tryd.prog [("math/bits.deBruijn64tab", Rows.laid_math_bits_deBruijn64tab)] W) : Tab W := by
 have h1 : laidMet Tryd.prog [("math/bits.deBruijn64tab", Rows.laid_math_bits_deBruijn64tab)] W := h
 rw [tab_data] at h1
 have ht := Lib.tabIs_of_head tab_global tab_type tab_und tab_u8 tab_c5 tab_c171 h1
 have hc : ∀ i, i < 64 → W.cell? ⟨0, i, none⟩ = some (.int .u8 (Lib.deBruijn64tab.getD i 0 : Nat)) := by
  intro i hi
  have hl : Lib.deBruijn64tab.length = 64 := rfl
  rw [ht.cell tab_global i (by rw [List.length_map, hl]; exact hi)]
  have : i < Lib.deBruijn64tab.length := by omega
  simp [List.getD, this]
 exact ⟨(cell_at (hc 0 (by omega))).2, hc⟩
end
set_option maxRecDepth 100000
section
open Go.Proofs Go.Proofs.YtfdgbghlanbddaaDoor
theorem io : Tryd.prog.initOrder = "harness d8d313f7324173a1e48e18dbbd53aea0b652cc2db0b3cb826d55cdaae13b972b cut at scriptory/scriptorylaw9.ThompsonBuilds scriptory/scriptorylaw9.ThompsonRefuses scriptory/scriptorylaw9.ThompsonCloses scriptory/scriptorylaw9.ThompsonJoins scriptory/scriptorylaw9.ThompsonRuns scriptory/scriptorylaw9.ThompsonGoes scriptory/scriptorylaw10.SubsetAll scriptory/scriptorylaw10.SubsetMade scriptory/scriptorylaw10.SubsetRuns scriptory/scriptorylaw10.SubsetBudget scriptory/scriptorylaw10.SubsetReach scriptory/scriptorylaw10.SubsetStep scriptory/scriptorylaw8.LangAll scriptory/scriptorylaw8.LangMade scriptory/scriptorylaw8.LangSteps scriptory/scriptorylaw8.LangMeans scriptory/scriptorylaw8.LangFirst scriptory/scriptorylaw8.LangStar scriptory/scriptorylaw8.LangSame scriptory/scriptorylaw8.LangNone" := by kernel_rfl
def headChars : List Char := [104, 97, 114, 110, 101, 115, 115, 32, 100, 56, 100, 51, 49, 51, 102, 55, 51, 50, 52, 49, 55, 51, 97, 49, 101, 52, 56, 101, 49, 56, 100, 98, 98, 100, 53, 51, 97, 101, 97, 48, 98, 54, 53, 50, 99, 99, 50, 100, 98, 48, 98, 51, 99, 98, 56, 50, 54, 100, 53, 53, 99, 100, 97, 97, 101, 49, 51, 98, 57, 55, 50, 98, 32, 99, 117, 116, 32, 97, 116, 32, 115, 99, 114, 105, 112, 116, 111, 114, 121, 47, 115, 99, 114, 105, 112, 116, 111, 114, 121, 108, 97, 119, 57, 46, 84, 104, 111, 109, 112, 115, 111, 110, 66, 117, 105, 108, 100, 115, 32, 115, 99, 114, 105, 112, 116, 111, 114, 121, 47, 115, 99, 114, 105, 112, 116, 111, 114, 121, 108, 97, 119, 57, 46, 84, 104, 111, 109, 112, 115, 111, 110, 82, 101, 102, 117, 115, 101, 115, 32, 115, 99, 114, 105, 112, 116, 111, 114, 121, 47, 115, 99, 114, 105, 112, 116, 111, 114, 121, 108, 97, 119, 57, 46, 84, 104, 111, 109, 112, 115, 111, 110, 67, 108, 111, 115, 101, 115, 32, 115, 99, 114, 105, 112, 116, 111, 114, 121, 47, 115, 99, 114, 105, 112, 116, 111, 114, 121, 108, 97, 119, 57, 46, 84, 104, 111, 109, 112, 115, 111, 110, 74, 111, 105, 110, 115, 32, 115, 99, 114, 105, 112, 116, 111, 114, 121, 47, 115, 99, 114, 105, 112, 116, 111, 114, 121, 108, 97, 119, 57, 46, 84, 104, 111, 109, 112, 115, 111, 110, 82, 117, 110, 115, 32, 115, 99, 114, 105, 112, 116, 111, 114, 121, 47, 115, 99, 114, 105, 112, 116, 111, 114, 121, 108, 97, 119, 57, 46, 84, 104, 111, 109, 112, 115, 111, 110, 71, 111, 101, 115, 32, 115, 99, 114, 105, 112, 116, 111, 114, 121, 47, 115, 99, 114, 105, 112, 116, 111, 114, 121, 108, 97, 119, 49, 48, 46, 83, 117, 98, 115, 101, 116, 65, 108, 108, 32, 115, 99, 114, 105, 112, 116, 111, 114, 121, 47, 115, 99, 114, 105, 112, 116, 111, 114, 121, 108, 97, 119, 49, 48, 46, 83, 117, 98, 115, 101, 116, 77, 97, 100, 101, 32, 115, 99, 114, 105, 112, 116, 111, 114, 121, 47, 115, 99, 114, 105, 112, 116, 111, 114, 121, 108, 97, 119, 49, 48, 46, 83, 117, 98, 115, 101, 116, 82, 117, 110, 115, 32, 115, 99, 114, 105, 112, 116, 111, 114, 121, 47, 115, 99, 114, 105, 112, 116, 111, 114, 121, 108, 97, 119, 49, 48, 46, 83, 117, 98, 115, 101, 116, 66, 117, 100, 103, 101, 116, 32, 115, 99, 114, 105, 112, 116, 111, 114, 121, 47, 115, 99, 114, 105, 112, 116, 111, 114, 121, 108, 97, 119, 49, 48, 46, 83, 117, 98, 115, 101, 116, 82, 101, 97, 99, 104, 32, 115, 99, 114, 105, 112, 116, 111, 114, 121, 47, 115, 99, 114, 105, 112, 116, 111, 114, 121, 108, 97, 119, 49, 48, 46, 83, 117, 98, 115, 101, 116, 83, 116, 101, 112, 32, 115, 99, 114, 105, 112, 116, 111, 114, 121, 47, 115, 99, 114, 105, 112, 116, 111, 114, 121, 108, 97, 119, 56, 46, 76, 97, 110, 103, 65, 108, 108, 32, 115, 99, 114, 105, 112, 116, 111, 114, 121, 47, 115, 99, 114, 105, 112, 116, 111, 114, 121, 108, 97, 119, 56, 46, 76, 97, 110, 103, 77, 97, 100, 101, 32, 115, 99, 114, 105, 112, 116, 111, 114, 121, 47, 115, 99, 114, 105, 112, 116, 111, 114, 121, 108, 97, 119, 56, 46, 76, 97, 110, 103, 83, 116, 101, 112, 115, 32, 115, 99, 114, 105, 112, 116, 111, 114, 121, 47, 115, 99, 114, 105, 112, 116, 111, 114, 121, 108, 97, 119, 56, 46, 76, 97, 110, 103, 77, 101, 97, 110, 115, 32, 115, 99, 114, 105, 112, 116, 111, 114, 121, 47, 115, 99, 114, 105, 112, 116, 111, 114, 121, 108, 97, 119, 56, 46, 76, 97, 110, 103, 70, 105, 114, 115, 116, 32, 115, 99, 114, 105, 112, 116, 111, 114, 121, 47, 115, 99, 114, 105, 112, 116, 111, 114, 121, 108, 97, 119, 56, 46, 76, 97, 110, 103, 83, 116, 97, 114, 32, 115, 99, 114, 105, 112, 116, 111, 114, 121, 47, 115, 99, 114, 105, 112, 116, 111, 114, 121, 108, 97, 119, 56, 46, 76, 97, 110, 103, 83, 97, 109, 101, 32, 115, 99, 114, 105, 112, 116, 111, 114, 121, 47, 115, 99, 114, 105, 112, 116, 111, 114, 121, 108, 97, 119, 56, 46, 76, 97, 110, 103, 78, 111, 110, 101].map Char.ofNat
theorem iol : Tryd.prog.initOrder.toList = headChars := by
 rw [io]
 exact String.toList_ofList
def headWords : List (List Char) := [[104, 97, 114, 110, 101, 115, 115], [100, 56, 100, 51, 49, 51, 102, 55, 51, 50, 52, 49, 55, 51, 97, 49, 101, 52, 56, 101, 49, 56, 100, 98, 98, 100, 53, 51, 97, 101, 97, 48, 98, 54, 53, 50, 99, 99, 50, 100, 98, 48, 98, 51, 99, 98, 56, 50, 54, 100, 53, 53, 99, 100, 97, 97, 101, 49, 51, 98, 57, 55, 50, 98], [99, 117, 116], [97, 116], [115, 99, 114, 105, 112, 116, 111, 114, 121, 47, 115, 99, 114, 105, 112, 116, 111, 114, 121, 108, 97, 119, 57, 46, 84, 104, 111, 109, 112, 115, 111, 110, 66, 117, 105, 108, 100, 115], [115, 99, 114, 105, 112, 116, 111, 114, 121, 47, 115, 99, 114, 105, 112, 116, 111, 114, 121, 108, 97, 119, 57, 46, 84, 104, 111, 109, 112, 115, 111, 110, 82, 101, 102, 117, 115, 101, 115], [115, 99, 114, 105, 112, 116, 111, 114, 121, 47, 115, 99, 114, 105, 112, 116, 111, 114, 121, 108, 97, 119, 57, 46, 84, 104, 111, 109, 112, 115, 111, 110, 67, 108, 111, 115, 101, 115], [115, 99, 114, 105, 112, 116, 111, 114, 121, 47, 115, 99, 114, 105, 112, 116, 111, 114, 121, 108, 97, 119, 57, 46, 84, 104, 111, 109, 112, 115, 111, 110, 74, 111, 105, 110, 115], [115, 99, 114, 105, 112, 116, 111, 114, 121, 47, 115, 99, 114, 105, 112, 116, 111, 114, 121, 108, 97, 119, 57, 46, 84, 104, 111, 109, 112, 115, 111, 110, 82, 117, 110, 115], [115, 99, 114, 105, 112, 116, 111, 114, 121, 47, 115, 99, 114, 105, 112, 116, 111, 114, 121, 108, 97, 119, 57, 46, 84, 104, 111, 109, 112, 115, 111, 110, 71, 111, 101, 115], [115, 99, 114, 105, 112, 116, 111, 114, 121, 47, 115, 99, 114, 105, 112, 116, 111, 114, 121, 108, 97, 119, 49, 48, 46, 83, 117, 98, 115, 101, 116, 65, 108, 108], [115, 99, 114, 105, 112, 116, 111, 114, 121, 47, 115, 99, 114, 105, 112, 116, 111, 114, 121, 108, 97, 119, 49, 48, 46, 83, 117, 98, 115, 101, 116, 77, 97, 100, 101], [115, 99, 114, 105, 112, 116, 111, 114, 121, 47, 115, 99, 114, 105, 112, 116, 111, 114, 121, 108, 97, 119, 49, 48, 46, 83, 117, 98, 115, 101, 116, 82, 117, 110, 115], [115, 99, 114, 105, 112, 116, 111, 114, 121, 47, 115, 99, 114, 105, 112, 116, 111, 114, 121, 108, 97, 119, 49, 48, 46, 83, 117, 98, 115, 101, 116, 66, 117, 100, 103, 101, 116], [115, 99, 114, 105, 112, 116, 111, 114, 121, 47, 115, 99, 114, 105, 112, 116, 111, 114, 121, 108, 97, 119, 49, 48, 46, 83, 117, 98, 115, 101, 116, 82, 101, 97, 99, 104], [115, 99, 114, 105, 112, 116, 111, 114, 121, 47, 115, 99, 114, 105, 112, 116, 111, 114, 121, 108, 97, 119, 49, 48, 46, 83, 117, 98, 115, 101, 116, 83, 116, 101, 112], [115, 99, 114, 105, 112, 116, 111, 114, 121, 47, 115, 99, 114, 105, 112, 116, 111, 114, 121, 108, 97, 119, 56, 46, 76, 97, 110, 103, 65, 108, 108], [115, 99, 114, 105, 112, 116, 111, 114, 121, 47, 115, 99, 114, 105, 112, 116, 111, 114, 121, 108, 97, 119, 56, 46, 76, 97, 110, 103, 77, 97, 100, 101], [115, 99, 114, 105, 112, 116, 111, 114, 121, 47, 115, 99, 114, 105, 112, 116, 111, 114, 121, 108, 97, 119, 56, 46, 76, 97, 110, 103, 83, 116, 101, 112, 115], [115, 99, 114, 105, 112, 116, 111, 114, 121, 47, 115, 99, 114, 105, 112, 116, 111, 114, 121, 108, 97, 119, 56, 46, 76, 97, 110, 103, 77, 101, 97, 110, 115], [115, 99, 114, 105, 112, 116, 111, 114, 121, 47, 115, 99, 114, 105, 112, 116, 111, 114, 121, 108, 97, 119, 56, 46, 76, 97, 110, 103, 70, 105, 114, 115, 116], [115, 99, 114, 105, 112, 116, 111, 114, 121, 47, 115, 99, 114, 105, 112, 116, 111, 114, 121, 108, 97, 119, 56, 46, 76, 97, 110, 103, 83, 116, 97, 114], [115, 99, 114, 105, 112, 116, 111, 114, 121, 47, 115, 99, 114, 105, 112, 116, 111, 114, 121, 108, 97, 119, 56, 46, 76, 97, 110, 103, 83, 97, 109, 101], [115, 99, 114, 105, 112, 116, 111, 114, 121, 47, 115, 99, 114, 105, 112, 116, 111, 114, 121, 108, 97, 119, 56, 46, 76, 97, 110, 103, 78, 111, 110, 101]].map fun l : List Nat => l.map Char.ofNat
theorem iow : wordsSigns headChars = headWords := by kernel_rfl
end
set_option maxRecDepth 100000
section
open Go.Proofs Go.Proofs.YtfdgbghlanbddaaDoor
theorem tl_finals : "finals".toList = ([102, 105, 110, 97, 108, 115].map Char.ofNat) := String.toList_ofList
theorem tl_reflectrows : "reflectrows".toList = ([114, 101, 102, 108, 101, 99, 116, 114, 111, 119, 115].map Char.ofNat) := String.toList_ofList
theorem tl_leanrows : "leanrows".toList = ([108, 101, 97, 110, 114, 111, 119, 115].map Char.ofNat) := String.toList_ofList
theorem tl_onebuild : "onebuild".toList = ([111, 110, 101, 98, 117, 105, 108, 100].map Char.ofNat) := String.toList_ofList
theorem tl_publicsums : "publicsums".toList = ([112, 117, 98, 108, 105, 99, 115, 117, 109, 115].map Char.ofNat) := String.toList_ofList
theorem tl_eqguard : "eqguard".toList = ([101, 113, 103, 117, 97, 114, 100].map Char.ofNat) := String.toList_ofList
theorem tl_ownunsafe : "ownunsafe".toList = ([111, 119, 110, 117, 110, 115, 97, 102, 101].map Char.ofNat) := String.toList_ofList
theorem tl_libbeside : "libbeside".toList = ([108, 105, 98, 98, 101, 115, 105, 100, 101].map Char.ofNat) := String.toList_ofList
theorem tl_ownbeside : "ownbeside".toList = ([111, 119, 110, 98, 101, 115, 105, 100, 101].map Char.ofNat) := String.toList_ofList
theorem tl_reflbeside : "reflbeside".toList = ([114, 101, 102, 108, 98, 101, 115, 105, 100, 101].map Char.ofNat) := String.toList_ofList
theorem tl_aliases : "aliases".toList = ([97, 108, 105, 97, 115, 101, 115].map Char.ofNat) := String.toList_ofList
theorem tl_afterinit : "afterinit".toList = ([97, 102, 116, 101, 114, 105, 110, 105, 116].map Char.ofNat) := String.toList_ofList
theorem tl_crcplain : "crcplain".toList = ([99, 114, 99, 112, 108, 97, 105, 110].map Char.ofNat) := String.toList_ofList
theorem tl_roadunsafe : "roadunsafe".toList = ([114, 111, 97, 100, 117, 110, 115, 97, 102, 101].map Char.ofNat) := String.toList_ofList
theorem tl_fmthandon : "fmthandon".toList = ([102, 109, 116, 104, 97, 110, 100, 111, 110].map Char.ofNat) := String.toList_ofList
theorem tl_harness : "harness".toList = ([104, 97, 114, 110, 101, 115, 115].map Char.ofNat) := String.toList_ofList
theorem tl_ownmain : "ownmain".toList = ([111, 119, 110, 109, 97, 105, 110].map Char.ofNat) := String.toList_ofList
theorem tl_gc : "gc".toList = ([103, 99].map Char.ofNat) := String.toList_ofList
theorem tl_spec : "spec".toList = ([115, 112, 101, 99].map Char.ofNat) := String.toList_ofList
theorem tl_carried : "carried".toList = ([99, 97, 114, 114, 105, 101, 100].map Char.ofNat) := String.toList_ofList
theorem tl_cut : "cut".toList = ([99, 117, 116].map Char.ofNat) := String.toList_ofList
theorem tl_sum : "d8d313f7324173a1e48e18dbbd53aea0b652cc2db0b3cb826d55cdaae13b972b".toList = ([100, 56, 100, 51, 49, 51, 102, 55, 51, 50, 52, 49, 55, 51, 97, 49, 101, 52, 56, 101, 49, 56, 100, 98, 98, 100, 53, 51, 97, 101, 97, 48, 98, 54, 53, 50, 99, 99, 50, 100, 98, 48, 98, 51, 99, 98, 56, 50, 54, 100, 53, 53, 99, 100, 97, 97, 101, 49, 51, 98, 57, 55, 50, 98].map Char.ofNat) := String.toList_ofList
end
set_option maxRecDepth 100000
section
open Go.Proofs Go.Proofs.YtfdgbghlanbddaaDoor
theorem words_ok : wordsSigns Tryd.prog.initOrder.toList = headWords := (congrArg wordsSigns iol).trans iow
theorem main_gen {P : Program} {h s : List Char} {r : List (List Char)} (hw : wordsSigns P.initOrder.toList = h :: s :: r) (hs : isSumSigns s = true) (hh : (h == "harness".toList) = true) : P.mainIs = some (true, s) := by
 unfold Program.mainIs
 rw [hw]
 simp only [hs, hh, Bool.not_true, Bool.false_eq_true, if_false, if_true]
theorem main_ok : Tryd.prog.mainIs = some (true, "d8d313f7324173a1e48e18dbbd53aea0b652cc2db0b3cb826d55cdaae13b972b".toList) := by
 rw [tl_sum]
 exact main_gen (h := (([104, 97, 114, 110, 101, 115, 115] : List Nat).map Char.ofNat)) (s := (([100, 56, 100, 51, 49, 51, 102, 55, 51, 50, 52, 49, 55, 51, 97, 49, 101, 52, 56, 101, 49, 56, 100, 98, 98, 100, 53, 51, 97, 101, 97, 48, 98, 54, 53, 50, 99, 99, 50, 100, 98, 48, 98, 51, 99, 98, 56, 50, 54, 100, 53, 53, 99, 100, 97, 97, 101, 49, 51, 98, 57, 55, 50, 98] : List Nat).map Char.ofNat)) (r := headWords.drop 2) words_ok (by kernel_rfl) (by rw [tl_harness]; kernel_rfl)
theorem behind_ok : behindMainWord headWords = headWords.drop 2 := by
 unfold behindMainWord
 rw [tl_harness, tl_ownmain]
 kernel_rfl
theorem behind_words : behindMainWord (wordsSigns Tryd.prog.initOrder.toList) = headWords.drop 2 := by rw [words_ok, behind_ok]
theorem strip_none {w : List Char} {ws : List (List Char)} : ∀ {os : List String}, (∀ o ∈ os, (w == o.toList) = false) → stripLifts os (w :: ws) = ([], w :: ws)
 | [], _ => rfl
 | o :: os, h => by
  unfold stripLifts
  rw [if_neg (by rw [h o (by simp)]; decide)]
  exact strip_none fun x hx => h x (by simp [hx])
theorem strip_ok : stripLifts liftWords (headWords.drop 2) = ([], headWords.drop 2) := by
 show stripLifts liftWords (([99, 117, 116].map Char.ofNat) :: headWords.drop 3) = ([], ([99, 117, 116].map Char.ofNat) :: headWords.drop 3)
 refine strip_none fun o ho => ?_
 simp only [liftWords, List.mem_cons, List.not_mem_nil, or_false] at ho
 rcases ho with rfl | rfl | rfl | rfl | rfl | rfl | rfl | rfl | rfl | rfl | rfl | rfl | rfl | rfl | rfl
 all_goals first | (rw [tl_finals]; kernel_rfl) | (rw [tl_reflectrows]; kernel_rfl) | (rw [tl_leanrows]; kernel_rfl) | (rw [tl_onebuild]; kernel_rfl) | (rw [tl_publicsums]; kernel_rfl) | (rw [tl_eqguard]; kernel_rfl) | (rw [tl_ownunsafe]; kernel_rfl) | (rw [tl_libbeside]; kernel_rfl) | (rw [tl_ownbeside]; kernel_rfl) | (rw [tl_reflbeside]; kernel_rfl) | (rw [tl_aliases]; kernel_rfl) | (rw [tl_afterinit]; kernel_rfl) | (rw [tl_crcplain]; kernel_rfl) | (rw [tl_roadunsafe]; kernel_rfl) | (rw [tl_fmthandon]; kernel_rfl)
theorem later_no : Tryd.prog.laysLater = false := by kernel_rfl
theorem reflect_no : Tryd.prog.bearsReflect = false := by kernel_rfl
theorem door_ok : Tryd.prog.doorFits [] = true := by kernel_rfl
theorem head_lifts : Tryd.prog.headLifts = [] := by
 unfold Program.headLifts
 simp only [behind_words, strip_ok, tl_cut]
 kernel_rfl
theorem cut_ok : (([99, 117, 116] : List Nat).map Char.ofNat == "cut".toList) = true := by rw [tl_cut]; kernel_rfl
theorem enter_gen {P : Program} {c : List Char} {rest : List (List Char)} (hw : behindMainWord (wordsSigns P.initOrder.toList) = c :: rest) (hs : stripLifts liftWords (c :: rest) = ([], c :: rest)) (hc : (c == "cut".toList) = true) (h1 : P.laysLater = false) (h2 : P.bearsReflect = false) (h3 : P.doorFits [] = true) : P.mayEnter = true := by
 have hc2 : (some c == some "cut".toList) = true := hc
 unfold Program.mayEnter
 rw [hw]
 simp only [hs, h1, h2, h3, List.head?_cons, hc2, Bool.not_false, Bool.or_true, Bool.and_true, Bool.true_and]
 simp
theorem enter_ok : Tryd.prog.mayEnter = true := enter_gen (c := ([99, 117, 116] : List Nat).map Char.ofNat) (rest := headWords.drop 3) behind_words strip_ok cut_ok later_no reflect_no door_ok
theorem lifts_gen {P : Program} (hl : P.headLifts = []) {c : List Char} {rest : List (List Char)} (hw : behindMainWord (wordsSigns P.initOrder.toList) = c :: rest) (hc : (c == "carried".toList) = false) : P.liftsFinal = false := by
 have hc2 : (some c == some "carried".toList) = false := hc
 unfold Program.liftsFinal
 rw [hw, hl]
 simp only [List.head?_cons, hc2, Bool.false_and, Bool.false_or]
 rfl
theorem lifts_ok : Tryd.prog.liftsFinal = false := lifts_gen head_lifts (c := ([99, 117, 116] : List Nat).map Char.ofNat) (rest := headWords.drop 3) behind_words (by rw [tl_carried]; kernel_rfl)
theorem make_gen {P : Program} {c : List Char} {rest : List (List Char)} (hw : behindMainWord (wordsSigns P.initOrder.toList) = c :: rest) (h1 : (c == "gc".toList) = false) (h2 : (c == "spec".toList) = false) (hc : (c == "cut".toList) = true) : P.make = some .cut := by
 unfold Program.make
 rw [hw]
 simp only [h1, h2, hc, Bool.or_false, Bool.true_or, Bool.false_eq_true, if_false, if_true]
theorem make_ok : Tryd.prog.make = some .cut := make_gen (c := ([99, 117, 116] : List Nat).map Char.ofNat) (rest := headWords.drop 3) behind_words (by rw [tl_gc]; kernel_rfl) (by rw [tl_spec]; kernel_rfl) cut_ok
end
set_option maxRecDepth 100000
section
open Go.Proofs Go.Proofs.YtfdgbghlanbddaaDoor
theorem rowed_ok : mapsRowed Tryd.prog = true := by kernel_rfl
theorem heard_ok : Tryd.prog.stopsHeard = true := by kernel_rfl
/-- What a row asks of the program, in parts. -/
theorem facts_of {f : FuncId} {fn : Func} {s : ChangeSpec} {c : OpenClaim} (h1 : c.wf (OpenSpec.ofChange s) = true) (h2 : (fn.params.all (Tryd.prog.readableRec ·) && namedTie Tryd.prog c.named s.vars) = true)
  (h3 : ((c.stops == []) && (Tryd.prog.stops == []) && (c.knobs == []) && (Tryd.prog.stopKnobs == [])) = true) (h4 : (c.inPlace == Tryd.prog.inPlace f) = true) (h5 : (c.unfollowed == Tryd.prog.unfollowed f) = true) (h6 : (c.recurses == Tryd.prog.recurses f) = true) (h7 : (c.named == Tryd.prog.varsNamed f) = true)
  (h8 : ((c.maps == (fn.params.toList ++ s.plain.varTypes Tryd.prog).any (Tryd.prog.mapsRec ·)) && (c.ifaces == (fn.params.toList ++ s.plain.varTypes Tryd.prog).any (Tryd.prog.ifacesRec ·)) && (c.mapsOut == Tryd.prog.mapsAmong fn.resultTypes.toList) &&
   (c.loops == (fn.params.toList ++ s.plain.varTypes Tryd.prog).any (Tryd.prog.loopsFrom ·)) && (c.wideKeys == (fn.params.toList ++ s.plain.varTypes Tryd.prog ++ fn.resultTypes.toList).any (Tryd.prog.wideKeysFrom ·)) &&
   s.vars.all (Tryd.prog.varReadable ·) && fn.resultTypes.all (fun t => Tryd.prog.readableRec t && decide (t < Tryd.prog.types.size)) && (c.ifacesOut == fn.resultTypes.toList.any (Tryd.prog.ifacesRec ·)) && (c.loopsOut == fn.resultTypes.toList.any (Tryd.prog.loopsFrom ·)) && (c.plainKeys == Tryd.prog.plainKeys) && c.shortTexts.isNone) = true)
  (hl : c.lifted = false) (hm : c.make = .cut)
  (h9 : ((c.kinds == (if c.domain.isEmpty then [] else fn.params.toList.map fun t => match Tryd.prog.underlying t with | some (.int k) => some k | _ => none)) && (c.pinned == c.pinnedBy) &&
   (c.veiled == (fn.params.toList ++ s.plain.varTypes Tryd.prog ++ fn.resultTypes.toList).any (Tryd.prog.veiledRec ·)) && c.veiledFits Tryd.prog fn.params.toList (fn.params.toList ++ s.plain.varTypes Tryd.prog ++ fn.resultTypes.toList)) = true) : joinedFacts Tryd.prog f fn s c = true := by
 have a1 : (c.lifted == Tryd.prog.liftsFinal) = true := by rw [hl, lifts_ok]; simp
 have a2 : (Tryd.prog.make == some c.make) = true := by rw [hm, make_ok]; simp
 simp only [Bool.and_eq_true] at h2 h3 h8 h9
 simp only [joinedFacts, Bool.and_eq_true]
 refine ⟨⟨⟨⟨⟨⟨⟨⟨⟨⟨⟨⟨⟨⟨⟨⟨⟨⟨⟨⟨⟨⟨⟨⟨⟨⟨⟨⟨⟨⟨⟨h1, laidOut⟩, rowed_ok⟩, h2.1⟩, h2.2⟩, ?_⟩, ?_⟩, ?_⟩, ?_⟩, h4⟩, h5⟩, h6⟩, h7⟩, ?_⟩, ?_⟩, ?_⟩, ?_⟩, ?_⟩, ?_⟩, ?_⟩, ?_⟩, ?_⟩, ?_⟩, ?_⟩, heard_ok⟩, enter_ok⟩, a1⟩, a2⟩, ?_⟩, ?_⟩, ?_⟩, ?_⟩
 all_goals first | exact h3.1.1.1 | exact h3.1.1.2 | exact h3.1.2 | exact h3.2 | exact h8.1.1.1.1.1.1.1.1.1.1 | exact h8.1.1.1.1.1.1.1.1.1.2 | exact h8.1.1.1.1.1.1.1.1.2 | exact h8.1.1.1.1.1.1.1.2 | exact h8.1.1.1.1.1.1.2 | exact h8.1.1.1.1.1.2 | exact h8.1.1.1.1.2 | exact h8.1.1.1.2 | exact h8.1.1.2 | exact h8.1.2 | exact h8.2 | exact h9.1.1.1 | exact h9.1.1.2 | exact h9.1.2 | exact h9.2
end
end Go.Proofs.YtfdgbghlanbddaaDoor.Av
