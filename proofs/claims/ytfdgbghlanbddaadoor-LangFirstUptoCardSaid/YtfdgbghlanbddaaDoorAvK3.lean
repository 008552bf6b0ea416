import Derived.Test.YtfdgbghlanbddaaDoorAvK0
import Derived.Test.YtfdgbghlanbddaaDoorAvK1
import Derived.Test.YtfdgbghlanbddaaDoorAvK2
import Derived.Laws.CopyRow
set_option linter.unusedVariables false
set_option linter.unusedSimpArgs false
namespace Go.Proofs.YtfdgbghlanbddaaDoor.Av
open Go.RowKit
/-! ### all of the builder's rows are written no more -/
def killAll : List Nat → List Ent → List Ent
 | [], es => es
 | id :: t, es => killAll t (setAt es id .dead)
def freezeAll : List Nat → Core → Core
 | [], c => c
 | id :: t, c => freezeAll t (c.freeze id)
section
variable {P : Program} {w0 : World} {N : Nat} {ops : Array Oper} {rest : List Oper} {f : Frame} {es : List Ent} {K : Frame → List Ent → Prop}
theorem BI.rows {ib sb iS sS : Nat} {ms : List (Nat × Nat)} {ns : List St} (h : BI es ib sb iS sS ms ns) : ∀ id ∈ ids ib iS ms, ∃ s e sz rows, at_ es id = some (.row s e sz rows) := by
 intro id hid
 simp only [ids, List.mem_cons, List.mem_map] at hid
 rcases hid with rfl | rfl | ⟨m, hm, rfl⟩
 ·exact ⟨_, _, _, _, h.b⟩
 ·exact ⟨_, _, _, _, h.s⟩
 ·obtain ⟨k, hk, rfl⟩ := List.mem_iff_getElem.1 hm
  exact ⟨_, _, _, _, h.f k (by have := h.len; omega) hk⟩
theorem sub_of {es es' : List Ent} (h : ∀ id, id < es.length → at_ es' id = at_ es id) : Sub es es' := fun id x _ hr => by rw [h id (at_lt hr)]; exact hr
end
end Go.Proofs.YtfdgbghlanbddaaDoor.Av
set_option linter.unusedVariables false
set_option linter.unusedSimpArgs false
set_option maxRecDepth 8000
namespace Go.Proofs.YtfdgbghlanbddaaDoor.Av
open Go.RowKit Go.Proofs
end Go.Proofs.YtfdgbghlanbddaaDoor.Av
set_option linter.unusedVariables false
set_option linter.unusedSimpArgs false
set_option maxRecDepth 8000
namespace Go.Proofs.YtfdgbghlanbddaaDoor.Av
open Go.RowKit Go.Proofs
/-- What part answers, of expressions that are not greater than B. -/
def PartOk (w0 : World) (B : Nat) : Prop := ∀ (r : Rx) (es : List Ent) (ib sb : Nat) (F : List Nat) (ns : List St), r.nodes ≤ B → r.fit → BF es ib sb F ns → wt ns + 8 * r.nodes ≤ 1000000000 →
 ACalls Tryd.prog w0 72 [.ptr ib sb 0 0, .agg r.cells] es fun v es' => v = .tup [.int .i64 ((bPart r ns).2.1 : Int), .int .i64 ((bPart r ns).2.2 : Int)] ∧ ∃ F', BG es es' ib sb F F' (bPart r ns).1
def lastOf : Option (Nat × Nat) → Int
 | none => -1
 | some p => p.2
end Go.Proofs.YtfdgbghlanbddaaDoor.Av
set_option linter.unusedVariables false
set_option linter.unusedSimpArgs false
set_option maxRecDepth 8000
namespace Go.Proofs.YtfdgbghlanbddaaDoor.Av
open Go.RowKit Go.Proofs
end Go.Proofs.YtfdgbghlanbddaaDoor.Av
set_option linter.unusedVariables false
set_option linter.unusedSimpArgs false
set_option maxRecDepth 8000
namespace Go.Proofs.YtfdgbghlanbddaaDoor.Av
open Go.RowKit Go.Proofs
/-- The machine of an expression, if it may be. -/
def buildN (r : Rx) : Nf := if mayR r = 0 then ⟨(bPart r []).1, ((bPart r []).2.1 : Int), ((bPart r []).2.2 : Int)⟩ else ⟨[], 0, 0⟩
end Go.Proofs.YtfdgbghlanbddaaDoor.Av
set_option linter.unusedVariables false
set_option linter.unusedSimpArgs false
namespace Go.Proofs.YtfdgbghlanbddaaDoor.Av
/-! ### expressions out of numbers -/
theorem mem_filt {α : Type} {p : α → Bool} {l : List α} {x : α} (h : x ∈ l.filter p) : x ∈ l := (List.mem_filter.1 h).1
def starN : Nat → Rx → Rx
 | 0, r => r
 | n + 1, r => if r.kind = 6 then r else if r.kind = 1 ∨ r.kind = 2 then emptyR else if r.kind = 5 ∧ (catOuts r.args).length < r.args.length then starN n (altR (catOuts r.args)) else .mk 6 noSet [r]
def starR (r : Rx) : Rx := starN 2000 r
/-- The next number, and what is left. -/
def num (m : Int) (q : List Int) : Int := (q.headD 0) % m
def rangeW (a b : Int) : W4 := ofW (((List.range 256).filter fun i : Nat => decide (a ≤ (i : Int)) && decide ((i : Int) ≤ b)).map Int.ofNat)
def notW (s : W4) : W4 := ofW (((List.range 256).filter fun i => !(s.has i)).map Int.ofNat)
def pSet (q : List Int) : W4 × List Int :=
 if num 8 q = 0 then (rangeW 97 100, q.tail)
 else if num 8 q = 1 then (rangeW (num 256 q.tail) (num 256 q.tail.tail), q.tail.tail.tail)
 else if num 8 q = 2 then (notW (ofW [97 + num 4 q.tail]), q.tail.tail)
 else if num 8 q = 3 then (ofW [97 + num 4 q.tail, 97 + num 4 q.tail.tail, num 256 q.tail.tail.tail], q.tail.tail.tail.tail)
 else if num 8 q = 4 then (rangeW 0 255, q.tail)
 else (ofW [97 + num 4 q.tail], q.tail.tail)
def pLeaf (k : Int) (q : List Int) : Rx × List Int :=
 if q = [] ∨ 0 < k then (bytesR (pSet q).1, (pSet q).2) else (if num 3 q = 0 then noneR else emptyR, q.tail)
def pRx : Nat → List Int → Rx × List Int
 | 0, q => pLeaf (num 9 q) q.tail
 | f + 1, q =>
  if q.tail = [] ∨ num 9 q < 3 then pLeaf (num 9 q) q.tail
  else if num 9 q = 3 ∨ num 9 q = 4 ∨ num 9 q = 5 then (catR [(pRx f q.tail).1, (pRx f (pRx f q.tail).2).1], (pRx f (pRx f q.tail).2).2)
  else if num 9 q = 6 ∨ num 9 q = 7 then (altR [(pRx f q.tail).1, (pRx f (pRx f q.tail).2).1], (pRx f (pRx f q.tail).2).2)
  else (starR (pRx f q.tail).1, (pRx f q.tail).2)
def pByte (q : List Int) : Int × List Int := if num 8 q = 0 then (num 256 q.tail, q.tail.tail) else (97 + num 4 q.tail, q.tail.tail)
def pWordGo : Nat → List Int → List Int
 | 0, _ => []
 | n + 1, q => (pByte q).1 :: pWordGo n (pByte q).2
def pWordQ : Nat → List Int → List Int
 | 0, q => q
 | n + 1, q => pWordQ n (pByte q).2
def pWord (most : Nat) (q : List Int) : List Int := pWordGo (num (most + 1) q).toNat q.tail
def bytesOk (l : List Int) : Prop := ∀ b ∈ l, 0 ≤ b ∧ b < 256
theorem num_range {q : List Int} {m : Int} (hm : 0 < m) : 0 ≤ num m q ∧ num m q < m := ⟨Int.emod_nonneg _ (by omega), Int.emod_lt_of_pos _ hm⟩
theorem bytesOk.tail {q : List Int} (h : bytesOk q) : bytesOk q.tail := fun b hb => h b (List.mem_of_mem_tail hb)
theorem ok_mkset {s : W4} (h : s.ok) : (Rx.mk 3 s []).ok := by simp [Rx.ok, Rx.oks, h]
theorem ok_none : noneR.ok := by simp [noneR, Rx.ok, Rx.oks, noSet_ok]
theorem ok_empty : emptyR.ok := by simp [emptyR, Rx.ok, Rx.oks, noSet_ok]
theorem ok_mk {k : Int} (hk : -9223372036854775808 ≤ k ∧ k < 9223372036854775808) {l : List Rx} (h : ∀ x ∈ l, x.ok) : (Rx.mk k noSet l).ok := by
 simp only [Rx.ok, Rx.oks_iff]
 exact ⟨hk, noSet_ok, h⟩
theorem catOf_ok {l : List Rx} (h : ∀ x ∈ l, x.ok) : (catOf l).ok := by
 match l, h with
 | [], _ => exact ok_empty
 | [x], h => exact h x (by simp)
 | x :: y :: t, h => exact ok_mk (by omega) h
theorem altOf_ok {l : List Rx} (h : ∀ x ∈ l, x.ok) : (altOf l).ok := by
 match l, h with
 | [], _ => exact ok_none
 | [x], h => exact h x (by simp)
 | x :: y :: t, h => exact ok_mk (by omega) h
theorem catR_ok {l : List Rx} (h : ∀ x ∈ l, x.ok) : (catR l).ok := by
 unfold catR
 split
 ·exact ok_none
 ·exact catOf_ok fun x hx => flat_ok h x (mem_filt hx)
theorem altFin_ok {o : List Rx} {s : W4} (h : ∀ x ∈ o, x.ok) (hs : s.ok) : ∀ x ∈ altFin o s, x.ok := by
 unfold altFin
 split
 ·exact h
 ·exact insR_ok h (ok_mkset hs)
theorem altR_ok {l : List Rx} (h : ∀ x ∈ l, x.ok) : (altR l).ok := by
 obtain ⟨h1, h2, h3⟩ := altOuts_inv (flatR 5 l) (flat_ok h) (flatR 5 l).length (Nat.le_refl _)
 rw [List.take_length] at h1 h3
 exact altOf_ok (altFin_ok h1 h3)
theorem catOf_nodes (l : List Rx) : (catOf l).nodes ≤ 1 + Rx.nodesL l := by
 match l with
 | [] => simp [catOf, emptyR, Rx.nodes, Rx.nodesL]
 | [x] => simp [catOf, Rx.nodesL]
 | x :: y :: t => simp only [catOf, Rx.nodes]; omega
theorem altOf_nodes (l : List Rx) : (altOf l).nodes ≤ 1 + Rx.nodesL l := by
 match l with
 | [] => simp [altOf, noneR, Rx.nodes, Rx.nodesL]
 | [x] => simp [altOf, Rx.nodesL]
 | x :: y :: t => simp only [altOf, Rx.nodes]; omega
theorem catR_nodes (l : List Rx) : (catR l).nodes ≤ 1 + Rx.nodesL l := by
 unfold catR
 split
 ·simp [noneR, Rx.nodes, Rx.nodesL]
 ·have h1 := catOf_nodes (catOuts (flatR 4 l))
  have h2 := catOuts_nodes (flatR 4 l)
  have h3 := flat_nodes 4 l
  unfold catOuts at h1 h2
  omega
/-- The sets that are laid together were there. -/
theorem altAll_nodes : ∀ (l : List Rx) (o : List Rx) (s : W4), Rx.nodesL (altOuts o l) + (if altSet s l = noSet then 0 else 1) ≤ Rx.nodesL o + (if s = noSet then 0 else 1) + Rx.nodesL l
 | [], o, s => by
  simp [altOuts, altSet, Rx.nodesL]
  exact Nat.le_refl _
 | r :: t, o, s => by
  have e1 : altOuts o (r :: t) = altOuts (if r.kind = 1 ∨ r.kind = 3 then o else insR o r) t := rfl
  have e2 : altSet s (r :: t) = altSet (if r.kind = 3 then s.or r.set else s) t := rfl
  have ih := altAll_nodes t (if r.kind = 1 ∨ r.kind = 3 then o else insR o r) (if r.kind = 3 then s.or r.set else s)
  have h1 := insR_nodes o r
  have h2 := r.nodes_pos
  rw [e1, e2]
  simp only [Rx.nodesL]
  by_cases h3 : r.kind = 3
  ·rw [if_pos (.inr h3), if_pos h3] at ih ⊢
   have : (if s.or r.set = noSet then 0 else 1) ≤ 1 := by split <;> omega
   omega
  ·rw [if_neg h3] at ih ⊢
   by_cases h4 : r.kind = 1 ∨ r.kind = 3
   ·rw [if_pos h4] at ih ⊢; omega
   ·rw [if_neg h4] at ih ⊢; omega
theorem altR_nodes (l : List Rx) : (altR l).nodes ≤ 1 + Rx.nodesL l := by
 unfold altR
 have h1 := altOf_nodes (altFin (altOuts [] (flatR 5 l)) (altSet noSet (flatR 5 l)))
 have h2 := altAll_nodes (flatR 5 l) [] noSet
 have h3 := flat_nodes 5 l
 simp only [if_true, Rx.nodesL] at h2
 unfold altFin at h1 ⊢
 split at h1
 ·rename_i h
  rw [if_pos h] at h2 ⊢
  omega
 ·rename_i h
  rw [if_neg h] at h2 ⊢
  have h4 := insR_nodes (altOuts [] (flatR 5 l)) (.mk 3 (altSet noSet (flatR 5 l)) [])
  simp only [Rx.nodes, Rx.nodesL] at h4
  omega
theorem catOuts_mem {l : List Rx} {x : Rx} (h : x ∈ catOuts l) : x ∈ l := mem_filt h
theorem catOuts_less : ∀ {l : List Rx}, (catOuts l).length < l.length → Rx.nodesL (catOuts l) < Rx.nodesL l
 | [], h => by simp [catOuts] at h
 | a :: t, h => by
  unfold catOuts at h ⊢
  rw [List.filter_cons] at h ⊢
  have ha := a.nodes_pos
  have hle := catOuts_nodes t
  unfold catOuts at hle
  split
  ·rename_i hk
   rw [if_pos hk] at h
   have := catOuts_less (l := t) (by unfold catOuts; simpa using h)
   unfold catOuts at this
   simp only [Rx.nodesL]
   omega
  ·simp only [Rx.nodesL]
   omega
theorem starN_ok : ∀ (n : Nat) {r : Rx}, r.ok → (starN n r).ok
 | 0, r, h => h
 | n + 1, r, h => by
  simp only [starN]
  split
  ·exact h
  ·split
   ·exact ok_empty
   ·split
    ·exact starN_ok n (altR_ok fun x hx => h.args x (catOuts_mem hx))
    ·exact ok_mk (by omega) (by simpa using h)
theorem starN_nodes : ∀ (n : Nat) (r : Rx), (starN n r).nodes ≤ r.nodes + 1
 | 0, r => by simp [starN]
 | n + 1, r => by
  simp only [starN]
  split
  ·omega
  ·split
   ·simp [emptyR, Rx.nodes, Rx.nodesL]
   ·split
    ·rename_i h
     have h1 := starN_nodes n (altR (catOuts r.args))
     have h2 := altR_nodes (catOuts r.args)
     have h3 := catOuts_less h.2
     have h4 := r.nodes_eq
     omega
    ·simp [Rx.nodes, Rx.nodesL]; omega
theorem starR_ok {r : Rx} (h : r.ok) : (starR r).ok := starN_ok 2000 h
theorem starR_nodes (r : Rx) : (starR r).nodes ≤ r.nodes + 1 := starN_nodes 2000 r
theorem filt_ok (p : Nat → Bool) : ∀ b ∈ ((List.range 256).filter p).map Int.ofNat, 0 ≤ b ∧ b < 256 := by
 intro b hb
 obtain ⟨i, hi, rfl⟩ := List.mem_map.1 hb
 have := List.mem_range.1 (mem_filt hi)
 exact ⟨Int.natCast_nonneg _, by show (i : Int) < 256; omega⟩
theorem rangeW_ok (a b : Int) : (rangeW a b).ok := ofW_ok (filt_ok _)
theorem notW_ok (s : W4) : (notW s).ok := ofW_ok (filt_ok _)
theorem ofW_one {b : Int} (h0 : 0 ≤ b) (h1 : b < 256) : (ofW [b]).ok := ofW_ok fun x hx => by
 simp only [List.mem_cons, List.not_mem_nil, or_false] at hx
 omega
theorem ofW_three {a b c : Int} (h0 : 0 ≤ a ∧ a < 256) (h1 : 0 ≤ b ∧ b < 256) (h2 : 0 ≤ c ∧ c < 256) : (ofW [a, b, c]).ok := ofW_ok fun x hx => by
 simp only [List.mem_cons, List.not_mem_nil, or_false] at hx
 omega
theorem pSet_ok {q : List Int} (hq : bytesOk q) : (pSet q).1.ok ∧ bytesOk (pSet q).2 := by
 have n4 : ∀ q : List Int, 0 ≤ num 4 q ∧ num 4 q < 4 := fun q => num_range (by omega)
 have n256 : ∀ q : List Int, 0 ≤ num 256 q ∧ num 256 q < 256 := fun q => num_range (by omega)
 have h1 := n4 q.tail
 have h2 := n4 q.tail.tail
 have h3 := n256 q.tail.tail.tail
 unfold pSet
 split
 ·exact And.intro (rangeW_ok 97 100) hq.tail
 ·split
  ·exact And.intro (rangeW_ok (num 256 q.tail) (num 256 q.tail.tail)) hq.tail.tail.tail
  ·split
   ·exact And.intro (notW_ok (ofW [97 + num 4 q.tail])) hq.tail.tail
   ·split
    ·exact And.intro (ofW_three (a := 97 + num 4 q.tail) (b := 97 + num 4 q.tail.tail) (c := num 256 q.tail.tail.tail) (by omega) (by omega) h3) hq.tail.tail.tail.tail
    ·split
     ·dsimp only
      have h9 := rangeW_ok 0 255
      generalize rangeW 0 255 = z at h9 ⊢
      exact ⟨h9, hq.tail⟩
     ·exact And.intro (ofW_one (b := 97 + num 4 q.tail) (by omega) (by omega)) hq.tail.tail
theorem bytesR_nodes (s : W4) : (bytesR s).nodes = 1 := by
 unfold bytesR
 split <;> simp [noneR, Rx.nodes, Rx.nodesL]
theorem pLeaf_ok {k : Int} {q : List Int} (hq : bytesOk q) : (pLeaf k q).1.ok ∧ bytesOk (pLeaf k q).2 ∧ (pLeaf k q).1.nodes = 1 := by
 obtain ⟨h1, h2⟩ := pSet_ok hq
 unfold pLeaf
 split
 ·exact ⟨bytesR_ok h1, h2, bytesR_nodes _⟩
 ·refine ⟨?_, hq.tail, ?_⟩
  ·simp only; split
   ·exact ok_none
   ·exact ok_empty
  ·simp only; split <;> simp [noneR, emptyR, Rx.nodes, Rx.nodesL]
theorem pRx_ok : ∀ (f : Nat) {q : List Int}, bytesOk q → (pRx f q).1.ok ∧ bytesOk (pRx f q).2 ∧ (pRx f q).1.nodes + 1 ≤ 2 ^ (f + 1)
 | 0, q, hq => by
  obtain ⟨h1, h2, h3⟩ := pLeaf_ok (k := num 9 q) hq.tail
  simp only [pRx]
  exact ⟨h1, h2, by omega⟩
 | f + 1, q, hq => by
  obtain ⟨h1, h2, h3⟩ := pLeaf_ok (k := num 9 q) hq.tail
  obtain ⟨a1, a2, a3⟩ := pRx_ok f hq.tail
  obtain ⟨b1, b2, b3⟩ := pRx_ok f a2
  have e : 2 ^ (f + 1 + 1) = 2 * 2 ^ (f + 1) := by rw [Nat.pow_succ]; omega
  have hp : 2 ≤ 2 ^ (f + 1) := by rw [Nat.pow_succ]; have := Nat.pos_of_ne_zero (show 2 ^ f ≠ 0 by simp); omega
  have hl : ∀ x ∈ [(pRx f q.tail).1, (pRx f (pRx f q.tail).2).1], x.ok := by
   intro x hx
   simp only [List.mem_cons, List.not_mem_nil, or_false] at hx
   rcases hx with rfl | rfl
   ·exact a1
   ·exact b1
  simp only [pRx]
  split
  ·exact ⟨h1, h2, by omega⟩
  ·split
   ·refine ⟨catR_ok hl, b2, ?_⟩
    have := catR_nodes [(pRx f q.tail).1, (pRx f (pRx f q.tail).2).1]
    simp only [Rx.nodesL] at this
    simp only
    omega
   ·split
    ·refine ⟨altR_ok hl, b2, ?_⟩
     have := altR_nodes [(pRx f q.tail).1, (pRx f (pRx f q.tail).2).1]
     simp only [Rx.nodesL] at this
     simp only
     omega
    ·dsimp only
     have h8 := starR_ok a1
     have h9 := starR_nodes (pRx f q.tail).1
     generalize starR (pRx f q.tail).1 = z at h8 h9 ⊢
     exact ⟨h8, a2, by omega⟩
theorem pByte_ok {q : List Int} (hq : bytesOk q) : 0 ≤ (pByte q).1 ∧ (pByte q).1 < 256 ∧ bytesOk (pByte q).2 := by
 have h1 := num_range (q := q.tail) (m := 4) (by omega)
 have h2 := num_range (q := q.tail) (m := 256) (by omega)
 unfold pByte
 split
 ·exact ⟨h2.1, h2.2, hq.tail.tail⟩
 ·exact ⟨by simp only; omega, by simp only; omega, hq.tail.tail⟩
theorem pWordGo_ok : ∀ (n : Nat) {q : List Int}, bytesOk q → bytesOk (pWordGo n q) ∧ (pWordGo n q).length = n
 | 0, _, _ => ⟨fun b hb => by simp [pWordGo] at hb, rfl⟩
 | n + 1, q, hq => by
  obtain ⟨h1, h2, h3⟩ := pByte_ok hq
  obtain ⟨h4, h5⟩ := pWordGo_ok n h3
  refine ⟨fun b hb => ?_, by simp [pWordGo, h5]⟩
  simp only [pWordGo, List.mem_cons] at hb
  rcases hb with rfl | hb
  ·exact ⟨h1, h2⟩
  ·exact h4 b hb
theorem pWord_ok {most : Nat} {q : List Int} (hq : bytesOk q) : bytesOk (pWord most q) ∧ (pWord most q).length ≤ most := by
 obtain ⟨h1, h2⟩ := pWordGo_ok (num (most + 1) q).toNat hq.tail
 have := num_range (q := q) (m := (most : Int) + 1) (by omega)
 refine ⟨h1, ?_⟩
 unfold pWord
 omega
end Go.Proofs.YtfdgbghlanbddaaDoor.Av
set_option linter.unusedVariables false
set_option linter.unusedSimpArgs false
set_option maxRecDepth 8000
namespace Go.Proofs.YtfdgbghlanbddaaDoor.Av
open Go.RowKit Go.Proofs
def boolT (p : Nat → Bool) : List AV := (List.range 256).map fun i => .bool (p i)
theorem boolT_len (p : Nat → Bool) : (boolT p).length = 256 := by simp [boolT]
theorem boolT_load {p : Nat → Bool} {k : Nat} (hk : k < 256) : loadAV false 1 (boolT p) k = .bool (p k) := by
 simp [loadAV, boolT, List.getD, hk]
theorem boolT_all (p : Nat → Bool) : loadAV true 256 (boolT p) 0 = .agg (boolT p) := by
 simp only [loadAV, if_true, List.drop_zero]
 rw [List.take_of_length_le (by rw [boolT_len]; exact Nat.le_refl _)]
theorem boolT_none {p : Nat → Bool} (h : ∀ i, i < 256 → p i = false) : boolT p = List.replicate 256 (.bool false) := by
 unfold boolT
 refine List.ext_getElem (by simp) fun i h1 h2 => ?_
 simp only [List.getElem_map, List.getElem_range, List.getElem_replicate]
 rw [h i (by simpa using h1)]
theorem boolT_congr {p q : Nat → Bool} (h : ∀ i, i < 256 → p i = q i) : boolT p = boolT q := by
 unfold boolT
 refine List.map_congr_left fun i hi => ?_
 rw [h i (List.mem_range.1 hi)]
theorem boolT_store {p : Nat → Bool} {k : Nat} {v : Bool} (hk : k < 256) : (boolT p).take k ++ [.bool v] ++ (boolT p).drop (k + 1) = boolT (fun i => if i = k then v else p i) := by
 have e : (boolT p).take k ++ [AV.bool v] ++ (boolT p).drop (k + 1) = (boolT p).set k (.bool v) := by
  rw [List.set_eq_take_append_cons_drop, if_pos (by rw [boolT_len]; exact hk)]
  simp
 rw [e]
 refine List.ext_getElem (by simp [boolT]) fun i h1 h2 => ?_
 simp only [boolT, List.getElem_set, List.getElem_map, List.getElem_range]
 by_cases hi : k = i
 ·subst hi; simp
 ·rw [if_neg hi, if_neg (Ne.symm hi)]
theorem filt_len (p : Nat → Bool) (k : Nat) : (((List.range k).filter p).map Int.ofNat).length ≤ k := by
 rw [List.length_map]
 have := List.length_filter_le p (List.range k)
 simpa using this
theorem filt_yes {p : Nat → Bool} {k : Nat} (h : p k = true) : ((List.range (k + 1)).filter p).map Int.ofNat = ((List.range k).filter p).map Int.ofNat ++ [(k : Int)] := by
 rw [List.range_succ, List.filter_append, List.map_append, List.filter_cons_of_pos (by simpa using h)]
 rfl
theorem filt_no {p : Nat → Bool} {k : Nat} (h : p k = false) : ((List.range (k + 1)).filter p).map Int.ofNat = ((List.range k).filter p).map Int.ofNat := by
 rw [List.range_succ, List.filter_append, List.map_append, List.filter_cons_of_neg (by simp [h])]
 simp
theorem range_step {a k : Int} {i : Nat} (h0 : a ≤ k) (h1 : 0 ≤ k) : (if i = k.toNat then true else (decide (a ≤ (i : Int)) && decide ((i : Int) < k))) = (decide (a ≤ (i : Int)) && decide ((i : Int) < k + 1)) := by
 by_cases h : i = k.toNat
 ·rw [if_pos h]
  have e1 : decide (a ≤ (i : Int)) = true := decide_eq_true (by omega)
  have e2 : decide ((i : Int) < k + 1) = true := decide_eq_true (by omega)
  rw [e1, e2]; rfl
 ·rw [if_neg h]
  congr 1
  rw [decide_eq_decide]
  omega
theorem not_step {s : W4} {k i : Nat} : (if i = k then !(s.has k) else (decide (i < k) && !(s.has i))) = (decide (i < k + 1) && !(s.has i)) := by
 by_cases h : i = k
 ·subst h; simp
 ·rw [if_neg h]
  congr 1
  rw [decide_eq_decide]
  omega
theorem rangeW_of {a b k : Int} (h : (k = b + 1 ∨ (b < a ∧ k = a))) : rangeW a b = ofW (((List.range 256).filter fun i : Nat => decide (a ≤ (i : Int)) && decide ((i : Int) < k)).map Int.ofNat) := by
 unfold rangeW
 congr 2
 refine List.filter_congr fun i _ => ?_
 rw [Bool.eq_iff_iff]
 simp only [Bool.and_eq_true, decide_eq_true_eq]
 omega
theorem notW_of (s : W4) : notW s = ofW (((List.range 256).filter fun i : Nat => decide (i < 256) && !(s.has i)).map Int.ofNat) := by
 have e : (List.range 256).filter (fun i : Nat => decide (i < 256) && !(s.has i)) = (List.range 256).filter fun i => !(s.has i) := by
  refine List.filter_congr fun i hi => ?_
  rw [show decide (i < 256) = true from decide_eq_true (List.mem_range.1 hi)]
  rfl
 unfold notW
 rw [e]
theorem star_6 {n : Nat} {r : Rx} (h : r.kind = 6) : starN (n + 1) r = r := by rw [starN, if_pos h]
theorem star_12 {n : Nat} {r : Rx} (h : r.kind = 1 ∨ r.kind = 2) : starN (n + 1) r = emptyR := by rw [starN, if_neg (by omega), if_pos h]
theorem star_alt {n : Nat} {r : Rx} (h : r.kind = 5) (hl : (catOuts r.args).length < r.args.length) : starN (n + 1) r = starN n (altR (catOuts r.args)) := by rw [starN, if_neg (by omega), if_neg (by omega), if_pos ⟨h, hl⟩]
theorem star_else {n : Nat} {r : Rx} (h : ¬ r.kind = 6 ∧ ¬ r.kind = 1 ∧ ¬ r.kind = 2) (hl : ¬ (r.kind = 5 ∧ (catOuts r.args).length < r.args.length)) : starN (n + 1) r = .mk 6 noSet [r] := by rw [starN, if_neg (by omega), if_neg (by omega), if_neg hl]
theorem refWhere {w0 : World} {es : List Ent} (p : Nat → Bool) : ACalls Tryd.prog w0 158 [.agg (boolT p)] es fun v es' => v = .agg (ofW (((List.range 256).filter p).map Int.ofNat)).row ∧ es' = es := by
 refine calls1 (N := 19) Tryd.func158 rfl rfl (by decide) ?_
 refine w_seq ?_
 refine w_region ?_
 refine l_cons rfl (p_box fun s1 => ?_)
 refine l_cons rfl (p_alloc ze_26 fun s2 => ?_)
 refine l_nil ?_
 refine k_seq_normal ?_
 refine w_seq ?_
 refine w_region ?_
 refine l_cons rfl (p_assign ?_)
 refine l_nil ?_
 refine k_seq_normal ?_
 refine w_seq ?_
 refine w_seq ?_
 refine w_adopt 3 5 1 rfl fun s3 => ?_
 simp only [upd_upd]
 refine w_region ?_
 refine l_cons rfl (p_assign ?_)
 refine l_nil ?_
 refine k_seq_normal ?_
 refine w_block ?_
 refine w_loop (fun m f es' => ∃ k s3, m = 256 - k ∧ k ≤ 256 ∧ es' = .row s3 5 1 ((((List.range k).filter p).map Int.ofNat).map fun n => [.int .u8 n]) :: .row s2 26 4 [[.int .u64 0, .int .u64 0, .int .u64 0, .int .u64 0]] :: .row s1 153 (boolT p).length [boolT p] :: es ∧ Knows f [(1, .ptr es.length s1 0 0), (2, .ptr (es.length + 1) s2 0 0), (3, .own (es.length + 2) s3), (4, .int .i64 k)]) (256) (⟨0, s3, rfl, Nat.zero_le _, rfl, by simp only [Knows, put, upd_apply, Nat.reduceEqDiff, ↓reduceIte, and_true, true_and, eq_self] <;> and_intros <;> rfl⟩) ?_
 rintro m f es' ⟨k, s3, rfl, hk1, rfl, hk⟩
 refine w_pins _ (Sub.refl _) (hk) ?_
 simp only [pins]
 refine w_seq ?_
 refine w_seq ?_
 refine w_region ?_
 refine l_cons rfl (p_move ?_)
 refine l_cons rfl (p_cmp ?_)
 refine l_nil ?_
 refine k_seq_normal ?_
 refine w_b (fun h1 => ?_) (fun h1 => ?_)
 ·skip
  have h1' := h1; (try simp only [decide_eq_true_eq, decide_eq_false_iff_not, Bool.not_eq_true', Bool.not_false, Bool.not_true, Bool.not_eq_false'] at h1')
  refine w_skip ?_
  refine k_seq_normal ?_
  refine w_seq ?_
  refine w_block ?_
  refine w_seq ?_
  refine w_region ?_
  refine l_cons rfl (p_move ?_)
  refine l_cons rfl (p_ixa ar_153 (a := .ptr es.length s1 0 k) ?_ (h0 := by omega) (h1 := by omega) (ho := by simp))
  refine l_cons rfl (p_loadp ty_4 (a := .bool (p k)) ?_ (hl := by simp only [boolT_len]; omega) (ha := boolT_load (by omega)))
  refine l_nil ?_
  refine k_seq_normal ?_
  refine w_b (fun h2 => ?_) (fun h2 => ?_)
  ·skip
   have h2' := h2; (try simp only [decide_eq_true_eq, decide_eq_false_iff_not, Bool.not_eq_true', Bool.not_false, Bool.not_true, Bool.not_eq_false'] at h2')
   have hfl := filt_len p k
   rw [List.length_map] at hfl
   refine w_region ?_
   refine l_cons rfl (p_move ?_)
   refine l_cons rfl (p_move ?_)
   refine l_cons rfl (p_conv in_3 in_5 ?_ (hb := wrap8 (n := (k : Int)) (by omega) (by omega)))
   refine l_cons rfl (p_buildList sl_22 ze_5 ?_)
   refine l_cons rfl (p_append sl_22 by_5 ze_5 (fun s16 => ?_) (hb := by simp only [List.length_map, List.length_take, List.length_drop, List.length_append, List.length_cons, List.length_nil, most]; omega))
   refine l_cons rfl (p_assign ?_)
   refine l_nil ?_
   refine k_blk_normal ?_
   refine k_seq_normal ?_
   refine w_region ?_
   refine l_cons rfl (p_move ?_)
   refine l_cons rfl (p_arith ?_)
   refine l_cons rfl (p_assign ?_)
   refine l_nil ?_
   refine k_seq_normal ?_
   first
   | exact ⟨256 - (k + 1), by omega, k + 1, s16, rfl, by omega, by rw [filt_yes h2', List.map_append] <;> rfl, by simp only [Knows, put, upd_apply, Nat.reduceEqDiff, ↓reduceIte, and_true, true_and, eq_self] <;> and_intros <;> rfl⟩
   | exact ⟨256 - (k + 1), by omega, k + 1, s3, rfl, by omega, by rw [filt_no h2'] <;> rfl, by simp only [Knows, put, upd_apply, Nat.reduceEqDiff, ↓reduceIte, and_true, true_and, eq_self] <;> and_intros <;> rfl⟩
  ·skip
   have h2' := h2; (try simp only [decide_eq_true_eq, decide_eq_false_iff_not, Bool.not_eq_true', Bool.not_false, Bool.not_true, Bool.not_eq_false'] at h2')
   refine w_skip ?_
   refine k_blk_normal ?_
   refine k_seq_normal ?_
   refine w_region ?_
   refine l_cons rfl (p_move ?_)
   refine l_cons rfl (p_arith ?_)
   refine l_cons rfl (p_assign ?_)
   refine l_nil ?_
   refine k_seq_normal ?_
   first
   | exact ⟨256 - (k + 1), by omega, k + 1, s16, rfl, by omega, by rw [filt_yes h2', List.map_append] <;> rfl, by simp only [Knows, put, upd_apply, Nat.reduceEqDiff, ↓reduceIte, and_true, true_and, eq_self] <;> and_intros <;> rfl⟩
   | exact ⟨256 - (k + 1), by omega, k + 1, s3, rfl, by omega, by rw [filt_no h2'] <;> rfl, by simp only [Knows, put, upd_apply, Nat.reduceEqDiff, ↓reduceIte, and_true, true_and, eq_self] <;> and_intros <;> rfl⟩
 ·skip
  have h1' := h1; (try simp only [decide_eq_true_eq, decide_eq_false_iff_not, Bool.not_eq_true', Bool.not_false, Bool.not_true, Bool.not_eq_false'] at h1')
  refine w_exit ?_
  refine k_seq_exit ?_
  refine k_seq_exit ?_
  refine k_blk_here ?_
  refine k_seq_normal ?_
  refine w_seq ?_
  refine w_freezeTop 3 ?_ (hclean := cleans_u8 _)
  obtain rfl : k = 256 := by omega
  refine w_region ?_
  refine l_cons rfl (p_move ?_)
  refine l_cons rfl (p_callr en_68 (refOf _ (filt_ok p)) ?_)
  refine l_cons rfl (p_store ty_26 ?_)
  refine l_nil ?_
  refine k_seq_normal ?_
  refine w_ret ?_
  exact retc rfl ty_26 (by first | exact Sub.refl _ | exact sub1 _ _ | exact sub2 _ _ _ | exact sub3 _ _ _ _ | exact sub4 _ _ _ _ _ | exact sub5 _ _ _ _ _ _) ⟨rfl, rfl⟩
theorem refRange {w0 : World} {es : List Ent} (a b : Int) (ha : 0 ≤ a ∧ a < 256) (hb : 0 ≤ b ∧ b < 256) : ACalls Tryd.prog w0 143 [.int .u8 a, .int .u8 b] es fun v es' => v = .agg (rangeW a b).row ∧ es' = es := by
 refine calls2 (N := 19) Tryd.func143 rfl rfl (by decide) ?_
 refine w_seq ?_
 refine w_region ?_
 refine l_cons rfl (p_alloc ze_26 fun s4 => ?_)
 refine l_nil ?_
 refine k_seq_normal ?_
 refine w_seq ?_
 refine w_region ?_
 refine l_cons rfl (p_alloc ze_153 fun s5 => ?_)
 refine l_nil ?_
 refine k_seq_normal ?_
 refine w_seq ?_
 refine w_seq ?_
 refine w_region ?_
 refine l_cons rfl (p_move ?_)
 refine l_cons rfl (p_conv in_5 in_3 ?_ (hb := wrap_i64 (n := a) (by omega) (by omega)))
 refine l_cons rfl (p_assign ?_)
 refine l_nil ?_
 refine k_seq_normal ?_
 refine w_block ?_
 refine w_loop (fun m f es' => ∃ k : Int, m = (b + 1 - k).toNat ∧ a ≤ k ∧ k ≤ 256 ∧ (k ≤ b + 1 ∨ k = a) ∧ es' = .row s5 153 256 [boolT (fun i : Nat => decide (a ≤ (i : Int)) && decide ((i : Int) < k))] :: .row s4 26 4 [[.int .u64 0, .int .u64 0, .int .u64 0, .int .u64 0]] :: es ∧ Knows f [(1, .int .u8 b), (4, .ptr es.length s4 0 0), (5, .ptr (es.length + 1) s5 0 0), (6, .int .i64 k)]) (_) (⟨a, rfl, by omega, by omega, .inr rfl, by rw [boolT_none (p := fun i : Nat => decide (a ≤ (i : Int)) && decide ((i : Int) < a)) (fun i _ => by by_cases h : a ≤ (i : Int) <;> simp <;> omega)] <;> rfl, by simp only [Knows, put, upd_apply, Nat.reduceEqDiff, ↓reduceIte, and_true, true_and, eq_self] <;> and_intros <;> rfl⟩) ?_
 rintro m f es' ⟨k, rfl, hk1, hk2, hk3, rfl, hk⟩
 refine w_pins _ (Sub.refl _) (hk) ?_
 simp only [pins]
 refine w_seq ?_
 refine w_seq ?_
 refine w_region ?_
 refine l_cons rfl (p_move ?_)
 refine l_cons rfl (p_move ?_)
 refine l_cons rfl (p_conv in_5 in_3 ?_ (hb := wrap_i64 (n := b) (by omega) (by omega)))
 refine l_cons rfl (p_cmp ?_)
 refine l_nil ?_
 refine k_seq_normal ?_
 refine w_b (fun h1 => ?_) (fun h1 => ?_)
 ·skip
  have h1' := h1; (try simp only [decide_eq_true_eq, decide_eq_false_iff_not, Bool.not_eq_true', Bool.not_false, Bool.not_true, Bool.not_eq_false'] at h1')
  refine w_skip ?_
  refine k_seq_normal ?_
  refine w_seq ?_
  refine w_block ?_
  refine w_region ?_
  refine l_cons rfl (p_move ?_)
  refine l_cons rfl (p_ixa ar_153 (a := .ptr (es.length + 1) s5 0 k.toNat) ?_ (h0 := by omega) (h1 := by omega) (ho := by simp))
  refine l_cons rfl (p_store ty_4 (r' := boolT (fun i => if i = k.toNat then true else (fun i : Nat => decide (a ≤ (i : Int)) && decide ((i : Int) < k)) i)) ?_ (hl := by simp only [boolT_len]; omega) (hr' := boolT_store (by omega)))
  refine l_nil ?_
  refine k_blk_normal ?_
  refine k_seq_normal ?_
  refine w_region ?_
  refine l_cons rfl (p_move ?_)
  refine l_cons rfl (p_arith ?_)
  refine l_cons rfl (p_assign ?_)
  refine l_nil ?_
  refine k_seq_normal ?_
  exact ⟨(b + 1 - (k + 1)).toNat, by omega, k + 1, rfl, by omega, by omega, .inl (by omega), by rw [boolT_congr (p := fun i => if i = k.toNat then true else (decide (a ≤ (i : Int)) && decide ((i : Int) < k))) (q := fun i : Nat => decide (a ≤ (i : Int)) && decide ((i : Int) < k + 1)) (fun i _ => range_step (by omega) (by omega))] <;> rfl, by simp only [Knows, put, upd_apply, Nat.reduceEqDiff, ↓reduceIte, and_true, true_and, eq_self] <;> and_intros <;> rfl⟩
 ·skip
  have h1' := h1; (try simp only [decide_eq_true_eq, decide_eq_false_iff_not, Bool.not_eq_true', Bool.not_false, Bool.not_true, Bool.not_eq_false'] at h1')
  refine w_exit ?_
  refine k_seq_exit ?_
  refine k_seq_exit ?_
  refine k_blk_here ?_
  refine k_seq_normal ?_
  refine w_seq ?_
  refine w_region ?_
  refine l_cons rfl (p_loadp ty_153 (a := .agg (boolT (fun i : Nat => decide (a ≤ (i : Int)) && decide ((i : Int) < k)))) ?_ (hl := by simp only [boolT_len]; omega) (ha := boolT_all _))
  refine l_cons rfl (p_callr en_158 (refWhere (fun i : Nat => decide (a ≤ (i : Int)) && decide ((i : Int) < k))) ?_)
  refine l_cons rfl (p_store ty_26 ?_)
  refine l_nil ?_
  refine k_seq_normal ?_
  refine w_ret ?_
  rw [rangeW_of (a := a) (b := b) (k := k) (by omega)]
  exact retc rfl ty_26 (by first | exact Sub.refl _ | exact sub1 _ _ | exact sub2 _ _ _ | exact sub3 _ _ _ _ | exact sub4 _ _ _ _ _ | exact sub5 _ _ _ _ _ _) ⟨rfl, rfl⟩
theorem refNot {w0 : World} {es : List Ent} (s : W4) (hs : s.ok) : ACalls Tryd.prog w0 144 [.agg s.row] es fun v es' => v = .agg (notW s).row ∧ es' = es := by
 unfold W4.row
 refine calls1 (N := 18) Tryd.func144 rfl rfl (by decide) ?_
 refine w_seq ?_
 refine w_region ?_
 refine l_cons rfl (p_box fun s1 => ?_)
 refine l_cons rfl (p_alloc ze_26 fun s2 => ?_)
 refine l_nil ?_
 refine k_seq_normal ?_
 refine w_seq ?_
 refine w_region ?_
 refine l_cons rfl (p_alloc ze_153 fun s3 => ?_)
 refine l_nil ?_
 refine k_seq_normal ?_
 refine w_seq ?_
 refine w_seq ?_
 refine w_region ?_
 refine l_cons rfl (p_assign ?_)
 refine l_nil ?_
 refine k_seq_normal ?_
 refine w_block ?_
 refine w_loop (fun m f es' => ∃ k, m = 256 - k ∧ k ≤ 256 ∧ es' = .row s3 153 256 [boolT (fun i : Nat => decide (i < k) && !(s.has i))] :: .row s2 26 4 [[.int .u64 0, .int .u64 0, .int .u64 0, .int .u64 0]] :: .row s1 26 4 [[.int .u64 s.w0, .int .u64 s.w1, .int .u64 s.w2, .int .u64 s.w3]] :: es ∧ Knows f [(1, .ptr es.length s1 0 0), (2, .ptr (es.length + 1) s2 0 0), (3, .ptr (es.length + 2) s3 0 0), (4, .int .i64 k)]) (256) (⟨0, rfl, by omega, by rw [boolT_none (p := fun i : Nat => decide (i < 0) && !(s.has i)) (fun i _ => by simp)] <;> rfl, by simp only [Knows, put, upd_apply, Nat.reduceEqDiff, ↓reduceIte, and_true, true_and, eq_self] <;> and_intros <;> rfl⟩) ?_
 rintro m f es' ⟨k, rfl, hk1, rfl, hk⟩
 refine w_pins _ (Sub.refl _) (hk) ?_
 simp only [pins]
 refine w_seq ?_
 refine w_seq ?_
 refine w_region ?_
 refine l_cons rfl (p_move ?_)
 refine l_cons rfl (p_cmp ?_)
 refine l_nil ?_
 refine k_seq_normal ?_
 refine w_b (fun h1 => ?_) (fun h1 => ?_)
 ·skip
  have h1' := h1; (try simp only [decide_eq_true_eq, decide_eq_false_iff_not, Bool.not_eq_true', Bool.not_false, Bool.not_true, Bool.not_eq_false'] at h1')
  refine w_skip ?_
  refine k_seq_normal ?_
  refine w_seq ?_
  refine w_block ?_
  refine w_region ?_
  refine l_cons rfl (p_move ?_)
  refine l_cons rfl (p_loadp ty_26 ?_)
  refine l_cons rfl (p_move ?_)
  refine l_cons rfl (p_conv in_3 in_5 ?_ (hb := wrap8 (n := (k : Int)) (by omega) (by omega)))
  refine l_cons rfl (p_callr en_55 (ref1Has s.w0 s.w1 s.w2 s.w3 (k : Int) (by omega) (by omega) hs.1 hs.2.1 hs.2.2.1 hs.2.2.2.1) ?_)
  refine l_cons rfl (p_not ?_)
  refine l_cons rfl (p_ixa ar_153 (a := .ptr (es.length + 2) s3 0 k) ?_ (h0 := by omega) (h1 := by omega) (ho := by simp))
  refine l_cons rfl (p_store ty_4 (r' := boolT (fun i => if i = k then !(s.has k) else (fun i : Nat => decide (i < k) && !(s.has i)) i)) ?_ (hl := by simp only [boolT_len]; omega) (hr' := boolT_store (by omega)))
  refine l_nil ?_
  refine k_blk_normal ?_
  refine k_seq_normal ?_
  refine w_region ?_
  refine l_cons rfl (p_move ?_)
  refine l_cons rfl (p_arith ?_)
  refine l_cons rfl (p_assign ?_)
  refine l_nil ?_
  refine k_seq_normal ?_
  exact ⟨256 - (k + 1), by omega, k + 1, rfl, by omega, by rw [boolT_congr (p := fun i => if i = k then !(s.has k) else (decide (i < k) && !(s.has i))) (q := fun i : Nat => decide (i < k + 1) && !(s.has i)) (fun i _ => not_step)] <;> rfl, by simp only [Knows, put, upd_apply, Nat.reduceEqDiff, ↓reduceIte, and_true, true_and, eq_self] <;> and_intros <;> rfl⟩
 ·skip
  have h1' := h1; (try simp only [decide_eq_true_eq, decide_eq_false_iff_not, Bool.not_eq_true', Bool.not_false, Bool.not_true, Bool.not_eq_false'] at h1')
  refine w_exit ?_
  refine k_seq_exit ?_
  refine k_seq_exit ?_
  refine k_blk_here ?_
  refine k_seq_normal ?_
  refine w_seq ?_
  obtain rfl : k = 256 := by omega
  refine w_region ?_
  refine l_cons rfl (p_loadp ty_153 (a := .agg (boolT (fun i : Nat => decide (i < 256) && !(s.has i)))) ?_ (hl := by simp only [boolT_len]; omega) (ha := boolT_all _))
  refine l_cons rfl (p_callr en_158 (refWhere (fun i : Nat => decide (i < 256) && !(s.has i))) ?_)
  refine l_cons rfl (p_store ty_26 ?_)
  refine l_nil ?_
  refine k_seq_normal ?_
  refine w_ret ?_
  rw [notW_of s]
  exact retc rfl ty_26 (by first | exact Sub.refl _ | exact sub1 _ _ | exact sub2 _ _ _ | exact sub3 _ _ _ _ | exact sub4 _ _ _ _ _ | exact sub5 _ _ _ _ _ _) ⟨rfl, rfl⟩
theorem refStarN {w0 : World} : ∀ (n : Nat) (r : Rx) (es : List Ent), r.nodes ≤ n + 1 → n ≤ 1000000 → r.ok → ACalls Tryd.prog w0 41 [.agg r.cells] es fun v es' => v = .agg (starN (n + 1) r).cells ∧ es' = es := by
 intro n
 induction n using Nat.strongRecOn with
 | _ n ih => ?_
 intro r es hB hB2 ho
 rw [Rx.cells_eq r]
 have hne := r.nodes_eq
 have hal := Rx.len_le r.args
 refine calls1 (N := 52) Tryd.func41 rfl rfl (by decide) ?_
 refine w_seq ?_
 refine w_region ?_
 refine l_cons rfl (p_box fun s1 => ?_)
 refine l_cons rfl (p_alloc ze_29 fun s2 => ?_)
 refine l_nil ?_
 refine k_seq_normal ?_
 refine w_seq ?_
 refine w_seq ?_
 refine w_region ?_
 refine l_cons rfl (p_fap fa_29_0 ?_)
 refine l_cons rfl (p_loadp ty_3 ?_)
 refine l_nil ?_
 refine k_seq_normal ?_
 refine w_block ?_
 refine w_seq ?_
 refine w_region ?_
 refine l_cons rfl (p_cmp ?_)
 refine l_cons rfl (p_assign ?_)
 refine l_nil ?_
 refine k_seq_normal ?_
 refine w_b (fun h1 => ?_) (fun h1 => ?_)
 ·skip
  have h1' := h1; (try simp only [decide_eq_true_eq, decide_eq_false_iff_not, Bool.not_eq_true', Bool.not_false, Bool.not_true, Bool.not_eq_false'] at h1')
  refine w_seq ?_
  refine w_region ?_
  refine l_cons rfl (p_loadp ty_29 ?_)
  refine l_cons rfl (p_callr en_63 (cells1 (refCopy _ r _ (Nat.le_refl _) (by omega))) ?_)
  refine l_cons rfl (p_store ty_29 ?_)
  refine l_nil ?_
  refine k_seq_normal ?_
  refine w_ret ?_
  refine k_blk_ret ?_
  refine k_seq_ret ?_
  rw [star_6 (by omega)]
  exact retc rfl ty_29 (by first | exact Sub.refl _ | exact sub1 _ _ | exact sub2 _ _ _ | exact sub3 _ _ _ _ | exact sub4 _ _ _ _ _ | exact sub5 _ _ _ _ _ _) ⟨rfl, rfl⟩
 ·skip
  have h1' := h1; (try simp only [decide_eq_true_eq, decide_eq_false_iff_not, Bool.not_eq_true', Bool.not_false, Bool.not_true, Bool.not_eq_false'] at h1')
  refine w_seq ?_
  refine w_seq ?_
  refine w_region ?_
  refine l_cons rfl (p_cmp ?_)
  refine l_cons rfl (p_assign ?_)
  refine l_nil ?_
  refine k_seq_normal ?_
  refine w_b (fun h2 => ?_) (fun h2 => ?_)
  ·skip
   have h2' := h2; (try simp only [decide_eq_true_eq, decide_eq_false_iff_not, Bool.not_eq_true', Bool.not_false, Bool.not_true, Bool.not_eq_false'] at h2')
   refine w_skip ?_
   refine k_seq_normal ?_
   refine w_t h2 ?_
   refine w_seq ?_
   refine w_region ?_
   refine l_cons rfl (p_callr en_85 (refEmpty) ?_)
   refine l_cons rfl (p_store ty_29 ?_)
   refine l_nil ?_
   refine k_seq_normal ?_
   refine w_ret ?_
   refine k_blk_ret ?_
   refine k_seq_ret ?_
   rw [star_12 (by omega)]
   exact retc rfl ty_29 (by first | exact Sub.refl _ | exact sub1 _ _ | exact sub2 _ _ _ | exact sub3 _ _ _ _ | exact sub4 _ _ _ _ _ | exact sub5 _ _ _ _ _ _) ⟨rfl, rfl⟩
  ·skip
   have h2' := h2; (try simp only [decide_eq_true_eq, decide_eq_false_iff_not, Bool.not_eq_true', Bool.not_false, Bool.not_true, Bool.not_eq_false'] at h2')
   refine w_region ?_
   refine l_cons rfl (p_cmp ?_)
   refine l_cons rfl (p_assign ?_)
   refine l_nil ?_
   refine k_seq_normal ?_
   refine w_b (fun h3 => ?_) (fun h3 => ?_)
   ·skip
    have h3' := h3; (try simp only [decide_eq_true_eq, decide_eq_false_iff_not, Bool.not_eq_true', Bool.not_false, Bool.not_true, Bool.not_eq_false'] at h3')
    refine w_seq ?_
    refine w_region ?_
    refine l_cons rfl (p_callr en_85 (refEmpty) ?_)
    refine l_cons rfl (p_store ty_29 ?_)
    refine l_nil ?_
    refine k_seq_normal ?_
    refine w_ret ?_
    refine k_blk_ret ?_
    refine k_seq_ret ?_
    rw [star_12 (by omega)]
    exact retc rfl ty_29 (by first | exact Sub.refl _ | exact sub1 _ _ | exact sub2 _ _ _ | exact sub3 _ _ _ _ | exact sub4 _ _ _ _ _ | exact sub5 _ _ _ _ _ _) ⟨rfl, rfl⟩
   ·skip
    have h3' := h3; (try simp only [decide_eq_true_eq, decide_eq_false_iff_not, Bool.not_eq_true', Bool.not_false, Bool.not_true, Bool.not_eq_false'] at h3')
    refine w_seq ?_
    refine w_region ?_
    refine l_cons rfl (p_cmp ?_)
    refine l_cons rfl (p_assign ?_)
    refine l_nil ?_
    refine k_seq_normal ?_
    refine w_b (fun h4 => ?_) (fun h4 => ?_)
    ·skip
     have h4' := h4; (try simp only [decide_eq_true_eq, decide_eq_false_iff_not, Bool.not_eq_true', Bool.not_false, Bool.not_true, Bool.not_eq_false'] at h4')
     refine w_seq ?_
     refine w_region ?_
     refine l_cons rfl (p_assign ?_)
     refine l_nil ?_
     refine k_seq_normal ?_
     refine w_seq ?_
     refine w_seq ?_
     refine w_adopt 3 29 6 rfl fun s3 => ?_
     simp only [upd_upd]
     refine w_region ?_
     refine l_cons rfl (p_assign ?_)
     refine l_nil ?_
     refine k_seq_normal ?_
     refine w_block ?_
     refine w_loop (fun m f es' => ∃ k s3, m = r.args.length - k ∧ k ≤ r.args.length ∧ es' = .row s3 29 6 ((catOuts (r.args.take k)).map Rx.cells) :: .row s2 29 6 [[.int .i64 0, .int .u64 0, .int .u64 0, .int .u64 0, .int .u64 0, .nil]] :: .row s1 29 6 [[.int .i64 r.kind, .int .u64 r.set.w0, .int .u64 r.set.w1, .int .u64 r.set.w2, .int .u64 r.set.w3, .list 6 (r.args.map Rx.cells)]] :: es ∧ Knows f [(1, .ptr es.length s1 0 0), (2, .ptr (es.length + 1) s2 0 0), (3, .own (es.length + 2) s3), (4, .int .i64 k)]) (r.args.length) (⟨0, s3, rfl, Nat.zero_le _, rfl, by simp only [Knows, put, upd_apply, Nat.reduceEqDiff, ↓reduceIte, and_true, true_and, eq_self] <;> and_intros <;> rfl⟩) ?_
     rintro m f es' ⟨k, s3, rfl, hk1, rfl, hk⟩
     refine w_pins _ (Sub.refl _) (hk) ?_
     simp only [pins]
     refine w_seq ?_
     refine w_seq ?_
     refine w_region ?_
     refine l_cons rfl (p_move ?_)
     refine l_cons rfl (p_fap fa_29_2 ?_)
     refine l_cons rfl (p_loadp ty_27 ?_)
     first | refine l_cons rfl (p_lenl sl_27 ?_) | refine l_cons rfl (p_leno sl_27 ?_) | refine l_cons rfl (p_lenn sl_27 ?_)
     refine l_cons rfl (p_cmp ?_)
     refine l_nil ?_
     refine k_seq_normal ?_
     refine w_b (fun h5 => ?_) (fun h5 => ?_)
     ·skip
      have h5' := h5; (try simp only [decide_eq_true_eq, decide_eq_false_iff_not, Bool.not_eq_true', Bool.not_false, Bool.not_true, Bool.not_eq_false'] at h5')
      refine w_skip ?_
      refine k_seq_normal ?_
      refine w_seq ?_
      refine w_block ?_
      refine w_seq ?_
      refine w_region ?_
      refine l_cons rfl (p_fap fa_29_2 ?_)
      refine l_cons rfl (p_loadp ty_27 ?_)
      refine l_cons rfl (p_move ?_)
      first | refine l_cons rfl (p_ixl sl_27 ?_) | refine l_cons rfl (p_ixo sl_27 ?_)
      first | refine l_cons rfl (p_fap fa_29_0 ?_) | refine l_cons rfl (p_faf fa_29_0 ?_)
      first | refine l_cons rfl (p_loadf ty_3 ?_) | refine l_cons rfl (p_loadp ty_3 ?_)
      refine l_cons rfl (p_cmp ?_)
      refine l_nil ?_
      refine k_seq_normal ?_
      refine w_b (fun h6 => ?_) (fun h6 => ?_)
      ·skip
       have h6' := h6; (try simp only [decide_eq_true_eq, decide_eq_false_iff_not, Bool.not_eq_true', Bool.not_false, Bool.not_true, Bool.not_eq_false'] at h6')
       have hcl := catOuts_nodes (r.args.take k)
       have hcl2 := Rx.len_le (catOuts (r.args.take k))
       have hcl3 := Rx.nodesL_le r.args k
       refine w_region ?_
       refine l_cons rfl (p_move ?_)
       refine l_cons rfl (p_fap fa_29_2 ?_)
       refine l_cons rfl (p_loadp ty_27 ?_)
       refine l_cons rfl (p_move ?_)
       first | refine l_cons rfl (p_ixl sl_27 ?_) | refine l_cons rfl (p_ixo sl_27 ?_)
       first | refine l_cons rfl (p_loadf ty_29 ?_) | refine l_cons rfl (p_loadp ty_29 ?_)
       refine l_cons rfl (p_buildList sl_27 ze_29 ?_)
       refine l_cons rfl (p_append sl_27 by_29 ze_29 (fun s38 => ?_) (hb := by simp only [List.length_map, List.length_take, List.length_drop, List.length_append, List.length_cons, List.length_nil, most]; omega))
       refine l_cons rfl (p_assign ?_)
       refine l_nil ?_
       refine k_blk_normal ?_
       refine k_seq_normal ?_
       refine w_region ?_
       refine l_cons rfl (p_move ?_)
       refine l_cons rfl (p_arith ?_)
       refine l_cons rfl (p_assign ?_)
       refine l_nil ?_
       refine k_seq_normal ?_
       first
       | exact ⟨r.args.length - (k + 1), by omega, k + 1, s38, rfl, by omega, by rw [catOuts_succ _ (by omega), if_neg (by simp_all), List.map_append] <;> rfl, by simp only [Knows, put, upd_apply, Nat.reduceEqDiff, ↓reduceIte, and_true, true_and, eq_self] <;> and_intros <;> rfl⟩
       | exact ⟨r.args.length - (k + 1), by omega, k + 1, s3, rfl, by omega, by rw [catOuts_succ _ (by omega), if_pos (by simp_all), List.append_nil] <;> rfl, by simp only [Knows, put, upd_apply, Nat.reduceEqDiff, ↓reduceIte, and_true, true_and, eq_self] <;> and_intros <;> rfl⟩
      ·skip
       have h6' := h6; (try simp only [decide_eq_true_eq, decide_eq_false_iff_not, Bool.not_eq_true', Bool.not_false, Bool.not_true, Bool.not_eq_false'] at h6')
       refine w_skip ?_
       refine k_blk_normal ?_
       refine k_seq_normal ?_
       refine w_region ?_
       refine l_cons rfl (p_move ?_)
       refine l_cons rfl (p_arith ?_)
       refine l_cons rfl (p_assign ?_)
       refine l_nil ?_
       refine k_seq_normal ?_
       first
       | exact ⟨r.args.length - (k + 1), by omega, k + 1, s38, rfl, by omega, by rw [catOuts_succ _ (by omega), if_neg (by simp_all), List.map_append] <;> rfl, by simp only [Knows, put, upd_apply, Nat.reduceEqDiff, ↓reduceIte, and_true, true_and, eq_self] <;> and_intros <;> rfl⟩
       | exact ⟨r.args.length - (k + 1), by omega, k + 1, s3, rfl, by omega, by rw [catOuts_succ _ (by omega), if_pos (by simp_all), List.append_nil] <;> rfl, by simp only [Knows, put, upd_apply, Nat.reduceEqDiff, ↓reduceIte, and_true, true_and, eq_self] <;> and_intros <;> rfl⟩
     ·skip
      have h5' := h5; (try simp only [decide_eq_true_eq, decide_eq_false_iff_not, Bool.not_eq_true', Bool.not_false, Bool.not_true, Bool.not_eq_false'] at h5')
      refine w_exit ?_
      refine k_seq_exit ?_
      refine k_seq_exit ?_
      refine k_blk_here ?_
      refine k_seq_normal ?_
      refine w_seq ?_
      refine w_freezeTop 3 ?_ (hclean := cleans_rx _)
      obtain rfl : k = r.args.length := by omega
      rw [List.take_length]
      refine w_region ?_
      refine l_cons rfl (p_move ?_)
      refine l_cons rfl (p_lenl sl_27 ?_)
      refine l_cons rfl (p_fap fa_29_2 ?_)
      refine l_cons rfl (p_loadp ty_27 ?_)
      first | refine l_cons rfl (p_lenl sl_27 ?_) | refine l_cons rfl (p_leno sl_27 ?_) | refine l_cons rfl (p_lenn sl_27 ?_)
      refine l_cons rfl (p_cmp ?_)
      refine l_nil ?_
      refine k_seq_normal ?_
      refine w_b (fun h7 => ?_) (fun h7 => ?_)
      ·skip
       have h7' := h7; (try simp only [decide_eq_true_eq, decide_eq_false_iff_not, Bool.not_eq_true', Bool.not_false, Bool.not_true, Bool.not_eq_false'] at h7')
       refine w_seq ?_
       have hcs := catOuts_less (l := r.args) (by omega)
       obtain ⟨m, rfl⟩ : ∃ m, n = m + 1 := ⟨n - 1, by omega⟩
       refine w_region ?_
       refine l_cons rfl (p_move ?_)
       refine l_cons rfl (p_callr en_40 (refAlt (catOuts r.args) (fun x hx => ho.args x (catOuts_mem hx)) (by omega)) ?_)
       refine l_cons rfl (p_callr en_41 (ih m (by omega) (altR (catOuts r.args)) _ (by have := altR_nodes (catOuts r.args); omega) (by omega) (altR_ok fun x hx => ho.args x (catOuts_mem hx))) ?_)
       refine l_cons rfl (p_store ty_29 ?_)
       refine l_nil ?_
       refine k_seq_normal ?_
       refine w_ret ?_
       refine k_blk_ret ?_
       refine k_seq_ret ?_
       rw [star_alt (by omega) (by omega)]
       exact retc rfl ty_29 (by first | exact Sub.refl _ | exact sub1 _ _ | exact sub2 _ _ _ | exact sub3 _ _ _ _ | exact sub4 _ _ _ _ _ | exact sub5 _ _ _ _ _ _) ⟨rfl, rfl⟩
      ·skip
       have h7' := h7; (try simp only [decide_eq_true_eq, decide_eq_false_iff_not, Bool.not_eq_true', Bool.not_false, Bool.not_true, Bool.not_eq_false'] at h7')
       refine w_skip ?_
       refine k_blk_normal ?_
       refine k_seq_normal ?_
       refine w_seq ?_
       refine w_region ?_
       refine l_cons rfl (p_loadp ty_29 ?_)
       refine l_cons rfl (p_callr en_63 (cells1 (refCopy _ r _ (Nat.le_refl _) (by omega))) ?_)
       refine l_cons rfl (p_buildList sl_27 ze_29 ?_)
       refine l_cons rfl (p_build ze_29 pl_29 ?_)
       refine l_cons rfl (p_store ty_29 ?_)
       refine l_nil ?_
       refine k_seq_normal ?_
       refine w_ret ?_
       rw [star_else (by omega) (by omega), Rx.cells_eq]
       exact retc rfl ty_29 (by first | exact Sub.refl _ | exact sub1 _ _ | exact sub2 _ _ _ | exact sub3 _ _ _ _ | exact sub4 _ _ _ _ _ | exact sub5 _ _ _ _ _ _) ⟨rfl, rfl⟩
    ·skip
     have h4' := h4; (try simp only [decide_eq_true_eq, decide_eq_false_iff_not, Bool.not_eq_true', Bool.not_false, Bool.not_true, Bool.not_eq_false'] at h4')
     refine w_skip ?_
     refine k_blk_normal ?_
     refine k_seq_normal ?_
     refine w_seq ?_
     refine w_region ?_
     refine l_cons rfl (p_loadp ty_29 ?_)
     refine l_cons rfl (p_callr en_63 (cells1 (refCopy _ r _ (Nat.le_refl _) (by omega))) ?_)
     refine l_cons rfl (p_buildList sl_27 ze_29 ?_)
     refine l_cons rfl (p_build ze_29 pl_29 ?_)
     refine l_cons rfl (p_store ty_29 ?_)
     refine l_nil ?_
     refine k_seq_normal ?_
     refine w_ret ?_
     rw [star_else (by omega) (by omega), Rx.cells_eq]
     exact retc rfl ty_29 (by first | exact Sub.refl _ | exact sub1 _ _ | exact sub2 _ _ _ | exact sub3 _ _ _ _ | exact sub4 _ _ _ _ _ | exact sub5 _ _ _ _ _ _) ⟨rfl, rfl⟩
theorem refStarR {w0 : World} {es : List Ent} (r : Rx) (hn : r.nodes ≤ 2000) (ho : r.ok) : ACalls Tryd.prog w0 41 [.agg r.cells] es fun v es' => v = .agg (starR r).cells ∧ es' = es := refStarN 1999 r es hn (by omega) ho
end Go.Proofs.YtfdgbghlanbddaaDoor.Av
set_option linter.unusedVariables false
set_option linter.unusedSimpArgs false
set_option maxRecDepth 8000
namespace Go.Proofs.YtfdgbghlanbddaaDoor.Av
open Go.RowKit Go.Proofs
/-- The numbers that are left. -/
def PK (es : List Ent) (ip sp : Nat) (q : List Int) : Prop := ∃ (l : List Int) (n : Nat), n ≤ l.length ∧ q = l.drop n ∧ bytesOk l ∧ l.length ≤ 1000000 ∧ at_ es ip = some (.row sp 89 2 [[bytesAV l, .int .i64 (n : Int)]])
theorem PK.mk' {es : List Ent} {ip sp n : Nat} {l : List Int} (h1 : n ≤ l.length) (h2 : bytesOk l) (h3 : l.length ≤ 1000000) (h4 : at_ es ip = some (.row sp 89 2 [[bytesAV l, .int .i64 (n : Int)]])) : PK es ip sp (l.drop n) := ⟨l, n, h1, rfl, h2, h3, h4⟩
theorem PK.lt {es : List Ent} {ip sp : Nat} {q : List Int} (h : PK es ip sp q) : ip < es.length := by
 obtain ⟨_, _, _, _, _, _, h⟩ := h
 exact at_lt h
theorem PK.push {es : List Ent} {ip sp : Nat} {q : List Int} (x : Ent) (h : PK es ip sp q) : PK (x :: es) ip sp q := by
 obtain ⟨l, n, h1, h2, h3, h4, h5⟩ := h
 exact ⟨l, n, h1, h2, h3, h4, at_miss _ h5⟩
theorem PK.bytes {es : List Ent} {ip sp : Nat} {q : List Int} (h : PK es ip sp q) : bytesOk q := by
 obtain ⟨l, n, _, rfl, h3, _, _⟩ := h
 exact fun b hb => h3 b (List.mem_of_mem_drop hb)
/-- From es on to es': all else is al' it was. -/
def PG (es es' : List Ent) (ip sp : Nat) (q : List Int) : Prop := PK es' ip sp q ∧ (∀ id, id ≠ ip → id < es.length → at_ es' id = at_ es id) ∧ es.length ≤ es'.length
theorem PG.refl {es : List Ent} {ip sp : Nat} {q : List Int} (h : PK es ip sp q) : PG es es ip sp q := ⟨h, fun _ _ _ => rfl, Nat.le_refl _⟩
theorem PG.trans {a b c : List Ent} {ip sp : Nat} {q1 q2 : List Int} (h : PG a b ip sp q1) (k : PG b c ip sp q2) : PG a c ip sp q2 :=
 ⟨k.1, fun id h1 h2 => (k.2.1 id h1 (Nat.lt_of_lt_of_le h2 h.2.2)).trans (h.2.1 id h1 h2), Nat.le_trans h.2.2 k.2.2⟩
theorem PG.pop {x : Ent} {es es' : List Ent} {ip sp : Nat} {q : List Int} (h : PG (x :: es) es' ip sp q) (hl : ip < es.length) : PG es es' ip sp q :=
 ⟨h.1, fun id h1 h2 => (h.2.1 id h1 (by simp only [List.length_cons]; omega)).trans (at_push x h2), by have := h.2.2; simp only [List.length_cons] at this; omega⟩
theorem PG.top {x : Ent} {es es' : List Ent} {ip sp : Nat} {q : List Int} (h : PG (x :: es) es' ip sp q) (hl : ip < es.length) : at_ es' es.length = some x :=
 (h.2.1 es.length (by omega) (by simp)).trans (at_hit _ _)
theorem PG.put {es es' : List Ent} {ip sp : Nat} {q : List Int} (h : PG es es' ip sp q) {id : Nat} (hid : es.length ≤ id) (y : Ent) (hl : ip < es.length := by omega) : PG es (setAt es' id y) ip sp q := by
 obtain ⟨⟨l, n, h1, h2, h3, h4, h5⟩, h6, h7⟩ := h
 exact ⟨⟨l, n, h1, h2, h3, h4, by rw [at_setAt_ne _ (by omega)]; exact h5⟩, fun i hi1 hi2 => by rw [at_setAt_ne _ (by omega)]; exact h6 i hi1 hi2, by rw [setAt_len]; exact h7⟩
theorem PG.up {es es' : List Ent} {ip sp : Nat} {q : List Int} (x : Ent) (h : PG es es' ip sp q) : PG es (x :: es') ip sp q :=
 ⟨h.1.push x, fun id h1 h2 => (at_push x (Nat.lt_of_lt_of_le h2 h.2.2)).trans (h.2.1 id h1 h2), by have := h.2.2; simp only [List.length_cons]; omega⟩
theorem pg_next {es : List Ent} {ip sp n : Nat} {l : List Int} (h1 : n < l.length) (h2 : bytesOk l) (h3 : l.length ≤ 1000000) (h4 : at_ es ip = some (.row sp 89 2 [[bytesAV l, .int .i64 (n : Int)]])) :
  PG es (setAt es ip (.row sp 89 2 [[bytesAV l, .int .i64 ((n : Int) + 1)]])) ip sp (l.drop n).tail := by
 refine ⟨⟨l, n + 1, by omega, by rw [List.tail_drop], h2, h3, at_setAt_same _ h4⟩, fun id h _ => at_setAt_ne _ h, by rw [setAt_len]; exact Nat.le_refl _⟩
theorem num_end {l : List Int} {n : Nat} {m : Int} (h : l.length ≤ n) : num m (l.drop n) = 0 := by
 rw [List.drop_eq_nil_of_le h]
 simp [num]
theorem num_at {l : List Int} {n : Nat} {m : Int} (h : n < l.length) : num m (l.drop n) = l[n] % m := by
 rw [drop_cons h]
 rfl
theorem rem_pos {x m : Int} (h0 : 0 ≤ x) (hm : 0 < m) : arithI .rem .i64 x m = some (x % m) := by
 have : x.tmod m = x % m := Int.tmod_eq_emod_of_nonneg h0
 simp only [arithI, this]
 rw [if_neg (by omega)]
theorem row_u8 {l : List Int} {k : Nat} (h : k < l.length) : (l.map fun n => [AV.int .u8 n])[k]? = some [.int .u8 l[k]] := by simp [h]
theorem one_byte {b : Int} (h : 0 ≤ b ∧ b < 256) : ∀ x ∈ [b], 0 ≤ x ∧ x < 256 := fun x hx => by
 simp only [List.mem_cons, List.not_mem_nil, or_false] at hx
 omega
theorem three_bytes {a b c : Int} (h0 : 0 ≤ a ∧ a < 256) (h1 : 0 ≤ b ∧ b < 256) (h2 : 0 ≤ c ∧ c < 256) : ∀ x ∈ [a, b, c], 0 ≤ x ∧ x < 256 := fun x hx => by
 simp only [List.mem_cons, List.not_mem_nil, or_false] at hx
 omega
theorem pSet_0 {q : List Int} (h : num 8 q = 0) : pSet q = (rangeW 97 100, q.tail) := by unfold pSet; rw [if_pos h]
theorem pSet_1 {q : List Int} (h : num 8 q = 1) : pSet q = (rangeW (num 256 q.tail) (num 256 q.tail.tail), q.tail.tail.tail) := by unfold pSet; rw [if_neg (by omega), if_pos h]
theorem pSet_2 {q : List Int} (h : num 8 q = 2) : pSet q = (notW (ofW [97 + num 4 q.tail]), q.tail.tail) := by unfold pSet; rw [if_neg (by omega), if_neg (by omega), if_pos h]
theorem pSet_3 {q : List Int} (h : num 8 q = 3) : pSet q = (ofW [97 + num 4 q.tail, 97 + num 4 q.tail.tail, num 256 q.tail.tail.tail], q.tail.tail.tail.tail) := by unfold pSet; rw [if_neg (by omega), if_neg (by omega), if_neg (by omega), if_pos h]
theorem pSet_4 {q : List Int} (h : num 8 q = 4) : pSet q = (rangeW 0 255, q.tail) := by unfold pSet; rw [if_neg (by omega), if_neg (by omega), if_neg (by omega), if_neg (by omega), if_pos h]
theorem pSet_5 {q : List Int} (h : ¬ num 8 q = 0 ∧ ¬ num 8 q = 1 ∧ ¬ num 8 q = 2 ∧ ¬ num 8 q = 3 ∧ ¬ num 8 q = 4) : pSet q = (ofW [97 + num 4 q.tail], q.tail.tail) := by unfold pSet; rw [if_neg (by omega), if_neg (by omega), if_neg (by omega), if_neg (by omega), if_neg (by omega)]
theorem num_walk {w0 : World} {es : List Ent} {ip sp : Nat} {q : List Int} (m : Int) (hm : 0 < m) (h : PK es ip sp q) : ACalls Tryd.prog w0 70 [.ptr ip sp 0 0, .int .i64 m] es fun v es' => v = .int .i64 (num m q) ∧ PG es es' ip sp q.tail := by
 obtain ⟨l, n, hnl, rfl, hbl, hll, hp⟩ := h
 have hq0 := PK.mk' hnl hbl hll hp
 refine calls2 (N := 36) Tryd.func70 rfl rfl (by decide) ?_
 refine w_seq ?_
 refine w_region ?_
 refine l_cons rfl (p_assign ?_)
 refine l_nil ?_
 refine k_seq_normal ?_
 refine w_seq ?_
 refine w_seq ?_
 refine w_drawn 9 [] (fun e => at_ e ip = some (.row sp 89 2 [[bytesAV l, .int .i64 (n : Int)]])) mixed (by kernel_rfl) hp ?_
 refine q1 0 (hg := rfl) (hu := rfl) (h := by rintro f _ hG; exact p_move ⟨rfl, rfl⟩) (k := ?_)
 first | refine q1 5 (hg := rfl) (hu := rfl) (h := by rintro f _ hG; exact p_ncp ⟨rfl, rfl⟩) (k := ?_) | refine q1 5 (hg := rfl) (hu := rfl) (h := by rintro f _ hG; exact p_ncf ⟨rfl, rfl⟩) (k := ?_)
 refine q1 6 (hg := rfl) (hu := rfl) (h := by rintro f _ hG; exact p_fap fa_89_1 ⟨rfl, rfl⟩) (k := ?_)
 refine q1 7 (hg := rfl) (hu := rfl) (h := by rintro f _ hG; exact p_loadp ty_3 ⟨rfl, rfl⟩) (k := ?_)
 refine q1 0 (hg := rfl) (hu := rfl) (h := by rintro f _ hG; exact p_move ⟨rfl, rfl⟩) (k := ?_)
 first | refine q1 9 (hg := rfl) (hu := rfl) (h := by rintro f _ hG; exact p_ncp ⟨rfl, rfl⟩) (k := ?_) | refine q1 9 (hg := rfl) (hu := rfl) (h := by rintro f _ hG; exact p_ncf ⟨rfl, rfl⟩) (k := ?_)
 refine q1 10 (hg := rfl) (hu := rfl) (h := by rintro f _ hG; exact p_fap fa_89_0 ⟨rfl, rfl⟩) (k := ?_)
 refine q1 11 (hg := rfl) (hu := rfl) (h := by rintro f _ hG; exact p_loadp ty_22 (a := .list 1 (l.map fun n => [.int .u8 n])) ⟨rfl, rfl⟩) (k := ?_)
 refine q1 12 (hg := rfl) (hu := rfl) (h := by rintro f _ hG; exact p_lenl sl_22 ⟨rfl, rfl⟩) (k := ?_)
 refine q_end ?_
 refine m_end ?_
 refine l_cons rfl (p_cmp ?_)
 refine l_nil ?_
 refine k_seq_normal ?_
 refine w_b (fun h1 => ?_) (fun h1 => ?_)
 ·skip
  have h1' := h1; (try simp only [decide_eq_true_eq, decide_eq_false_iff_not, Bool.not_eq_true', Bool.not_false, Bool.not_true, Bool.not_eq_false'] at h1')
  refine w_seq ?_
  refine w_region ?_
  refine l_cons rfl (p_assign ?_)
  refine l_nil ?_
  refine k_seq_normal ?_
  refine w_ret ?_
  refine k_seq_ret ?_
  exact ret1 rfl (by simp only [ev_tmp, ev_const, ev_func, ofConst_int, ofConst_bool, ofConst_str, ofConst_nil, upd_apply, Nat.reduceEqDiff, ↓reduceIte] <;> exact rfl) (Sub.refl _) ⟨by rw [num_end (by omega)], by rw [List.drop_eq_nil_of_le (by omega)] at hq0 ⊢; exact PG.refl hq0⟩
 ·skip
  have h1' := h1; (try simp only [decide_eq_true_eq, decide_eq_false_iff_not, Bool.not_eq_true', Bool.not_false, Bool.not_true, Bool.not_eq_false'] at h1')
  refine w_skip ?_
  refine k_seq_normal ?_
  refine w_seq ?_
  refine w_region ?_
  refine l_cons rfl (p_move ?_)
  first | refine l_cons rfl (p_ncp ?_) | refine l_cons rfl (p_ncf ?_)
  refine l_cons rfl (p_fap fa_89_1 ?_)
  refine l_cons rfl (p_loadp ty_3 ?_)
  refine l_cons rfl (p_arith ?_)
  first | refine l_cons rfl (p_ncp ?_) | refine l_cons rfl (p_ncf ?_)
  refine l_cons rfl (p_fap fa_89_1 ?_)
  refine l_cons rfl (p_store ty_3 ?_)
  have hp2 := at_setAt_same (.row sp 89 2 [[bytesAV l, .int .i64 ((n : Int) + 1)]]) hp
  refine l_nil ?_
  refine k_seq_normal ?_
  refine w_seq ?_
  refine w_drawn 13 [] (fun e => at_ e ip = some (.row sp 89 2 [[bytesAV l, .int .i64 ((n : Int) + 1)]])) mixed (by kernel_rfl) hp2 ?_
  refine q1 0 (hg := rfl) (hu := rfl) (h := by rintro f _ hG; exact p_move ⟨rfl, rfl⟩) (k := ?_)
  first | refine q1 22 (hg := rfl) (hu := rfl) (h := by rintro f _ hG; exact p_ncp ⟨rfl, rfl⟩) (k := ?_) | refine q1 22 (hg := rfl) (hu := rfl) (h := by rintro f _ hG; exact p_ncf ⟨rfl, rfl⟩) (k := ?_)
  refine q1 23 (hg := rfl) (hu := rfl) (h := by rintro f _ hG; exact p_fap fa_89_0 ⟨rfl, rfl⟩) (k := ?_)
  refine q1 24 (hg := rfl) (hu := rfl) (h := by rintro f _ hG; exact p_loadp ty_22 (a := .list 1 (l.map fun n => [.int .u8 n])) ⟨rfl, rfl⟩) (k := ?_)
  refine q1 0 (hg := rfl) (hu := rfl) (h := by rintro f _ hG; exact p_move ⟨rfl, rfl⟩) (k := ?_)
  first | refine q1 26 (hg := rfl) (hu := rfl) (h := by rintro f _ hG; exact p_ncp ⟨rfl, rfl⟩) (k := ?_) | refine q1 26 (hg := rfl) (hu := rfl) (h := by rintro f _ hG; exact p_ncf ⟨rfl, rfl⟩) (k := ?_)
  refine q1 27 (hg := rfl) (hu := rfl) (h := by rintro f _ hG; exact p_fap fa_89_1 ⟨rfl, rfl⟩) (k := ?_)
  refine q1 28 (hg := rfl) (hu := rfl) (h := by rintro f _ hG; exact p_loadp ty_3 ⟨rfl, rfl⟩) (k := ?_)
  refine q1 29 (hg := rfl) (hu := rfl) (h := by rintro f _ hG; exact p_arith ⟨rfl, rfl⟩) (k := ?_)
  refine q2 25 30 (hg := rfl) (hu := rfl) (h := by rintro f _ hG; exact p_ixl sl_22 (a := .fptr 1 (l.map fun n => [.int .u8 n]) n 0) ⟨rfl, rfl⟩ (h0 := by omega) (h1 := by simp only [List.length_map]; omega) (ho := by congr 1; omega)) (k := ?_)
  refine q1 31 (hg := rfl) (hu := rfl) (h := by rintro f _ hG; exact p_loadf ty_5 (a := .int .u8 (l[n]'(by omega))) ⟨rfl, rfl⟩ (hr := row_u8 (by omega)) (hl := Nat.le_refl 1) (ha := rfl)) (k := ?_)
  refine q1 32 (hg := rfl) (hu := rfl) (h := by rintro f _ hG; exact p_conv in_5 in_3 ⟨rfl, rfl⟩ (hb := wrap_i64 (n := l[n]'(by omega)) (by have := hbl _ (List.getElem_mem (l := l) (n := n) (by omega)); omega) (by have := hbl _ (List.getElem_mem (l := l) (n := n) (by omega)); omega))) (k := ?_)
  refine q1 1 (hg := rfl) (hu := rfl) (h := by rintro f _ hG; exact p_move ⟨rfl, rfl⟩) (k := ?_)
  refine q_end ?_
  refine m_end ?_
  refine l_cons rfl (p_arith ?_ (hb := rem_pos (hbl _ (List.getElem_mem (l := l) (n := n) (by omega))).1 hm))
  refine l_cons rfl (p_assign ?_)
  refine l_nil ?_
  refine k_seq_normal ?_
  refine w_ret ?_
  exact ret1 rfl (by simp only [ev_tmp, ev_const, ev_func, ofConst_int, ofConst_bool, ofConst_str, ofConst_nil, upd_apply, Nat.reduceEqDiff, ↓reduceIte] <;> exact rfl) (Sub.refl _) ⟨by rw [num_at (by omega)], pg_next (by omega) hbl hll hp⟩
theorem over_walk {w0 : World} {es : List Ent} {ip sp : Nat} {q : List Int} (h : PK es ip sp q) : ACalls Tryd.prog w0 106 [.ptr ip sp 0 0] es fun v es' => v = .bool (decide (q = [])) ∧ es' = es := by
 obtain ⟨l, n, hnl, rfl, hbl, hll, hp⟩ := h
 refine calls1 (N := 13) Tryd.func106 rfl rfl (by decide) ?_
 refine w_seq ?_
 refine w_region ?_
 refine l_cons rfl (p_assign ?_)
 refine l_nil ?_
 refine k_seq_normal ?_
 refine w_seq ?_
 refine w_drawn 9 [] (fun e => at_ e ip = some (.row sp 89 2 [[bytesAV l, .int .i64 (n : Int)]])) mixed (by kernel_rfl) hp ?_
 refine q1 0 (hg := rfl) (hu := rfl) (h := by rintro f _ hG; exact p_move ⟨rfl, rfl⟩) (k := ?_)
 first | refine q1 3 (hg := rfl) (hu := rfl) (h := by rintro f _ hG; exact p_ncp ⟨rfl, rfl⟩) (k := ?_) | refine q1 3 (hg := rfl) (hu := rfl) (h := by rintro f _ hG; exact p_ncf ⟨rfl, rfl⟩) (k := ?_)
 refine q1 4 (hg := rfl) (hu := rfl) (h := by rintro f _ hG; exact p_fap fa_89_1 ⟨rfl, rfl⟩) (k := ?_)
 refine q1 5 (hg := rfl) (hu := rfl) (h := by rintro f _ hG; exact p_loadp ty_3 ⟨rfl, rfl⟩) (k := ?_)
 refine q1 0 (hg := rfl) (hu := rfl) (h := by rintro f _ hG; exact p_move ⟨rfl, rfl⟩) (k := ?_)
 first | refine q1 7 (hg := rfl) (hu := rfl) (h := by rintro f _ hG; exact p_ncp ⟨rfl, rfl⟩) (k := ?_) | refine q1 7 (hg := rfl) (hu := rfl) (h := by rintro f _ hG; exact p_ncf ⟨rfl, rfl⟩) (k := ?_)
 refine q1 8 (hg := rfl) (hu := rfl) (h := by rintro f _ hG; exact p_fap fa_89_0 ⟨rfl, rfl⟩) (k := ?_)
 refine q1 9 (hg := rfl) (hu := rfl) (h := by rintro f _ hG; exact p_loadp ty_22 (a := .list 1 (l.map fun n => [.int .u8 n])) ⟨rfl, rfl⟩) (k := ?_)
 refine q1 10 (hg := rfl) (hu := rfl) (h := by rintro f _ hG; exact p_lenl sl_22 ⟨rfl, rfl⟩) (k := ?_)
 refine q_end ?_
 refine m_end ?_
 refine l_cons rfl (p_cmp ?_)
 refine l_cons rfl (p_assign ?_)
 refine l_nil ?_
 refine k_seq_normal ?_
 refine w_ret ?_
 exact ret1 rfl (by simp only [ev_tmp, ev_const, ev_func, ofConst_int, ofConst_bool, ofConst_str, ofConst_nil, upd_apply, Nat.reduceEqDiff, ↓reduceIte] <;> exact rfl) (Sub.refl _) ⟨by congr 1; rw [decide_eq_decide, List.drop_eq_nil_iff]; omega, rfl⟩
theorem made_walk {w0 : World} {es : List Ent} (l : List Int) (hl : l.length ≤ 1000000) (hb : bytesOk l) : ACalls Tryd.prog w0 24 [bytesAV l] es fun v es' => ∃ s, v = .ptr es.length s 0 0 ∧ es' = .row s 89 2 [[bytesAV l, .int .i64 0]] :: es := by
 refine calls1 (N := 6) Tryd.func24 rfl rfl (by decide) ?_
 refine w_seq ?_
 refine w_region ?_
 refine l_cons rfl (p_assign ?_)
 refine l_nil ?_
 refine k_seq_normal ?_
 refine w_seq ?_
 refine w_region ?_
 refine l_cons rfl (p_move ?_)
 refine l_cons rfl (p_build ze_89 pl_89 ?_)
 refine l_cons rfl (p_box fun s5 => ?_)
 refine l_cons rfl (p_assign ?_)
 refine l_nil ?_
 refine k_seq_normal ?_
 refine w_ret ?_
 exact ret1 rfl (by simp only [ev_tmp, ev_const, ev_func, ofConst_int, ofConst_bool, ofConst_str, ofConst_nil, upd_apply, Nat.reduceEqDiff, ↓reduceIte] <;> exact rfl) (Sub.refl _) ⟨_, rfl, rfl⟩
theorem set_walk {w0 : World} {es : List Ent} {ip sp : Nat} {q : List Int} (h : PK es ip sp q) : ACalls Tryd.prog w0 107 [.ptr ip sp 0 0] es fun v es' => v = .agg (pSet q).1.row ∧ PG es es' ip sp (pSet q).2 := by
 have hipl := h.lt
 refine calls1 (N := 50) Tryd.func107 rfl rfl (by decide) ?_
 refine w_seq ?_
 refine w_region ?_
 refine l_cons rfl (p_alloc ze_26 fun s2 => ?_)
 refine l_nil ?_
 refine k_seq_normal ?_
 refine w_seq ?_
 refine w_seq ?_
 refine w_region ?_
 refine l_cons rfl (p_move ?_)
 refine l_cons rfl (p_call en_70 ((num_walk 8 (by omega) (h.push _)).mono ?_))
 rintro _ es1 ⟨rfl, hg1⟩
 have hn1 := num_range (q := q) (m := 8) (by omega)
 have hgt := hg1
 have hs2 := hgt.top hipl
 refine l_nil ?_
 refine k_seq_normal ?_
 refine w_block ?_
 refine w_seq ?_
 refine w_region ?_
 refine l_cons rfl (p_cmp ?_)
 refine l_cons rfl (p_assign ?_)
 refine l_nil ?_
 refine k_seq_normal ?_
 refine w_b (fun h1 => ?_) (fun h1 => ?_)
 ·skip
  have h1' := h1; (try simp only [decide_eq_true_eq, decide_eq_false_iff_not, Bool.not_eq_true', Bool.not_false, Bool.not_true, Bool.not_eq_false'] at h1')
  refine w_seq ?_
  refine w_region ?_
  refine l_cons rfl (p_callr en_143 (refRange 97 100 (by omega) (by omega)) ?_)
  refine l_cons rfl (p_store ty_26 ?_)
  refine l_nil ?_
  refine k_seq_normal ?_
  refine w_ret ?_
  refine k_blk_ret ?_
  refine k_seq_ret ?_
  rw [pSet_0 (by omega)]
  exact retc (he := loc_base (at_setAt_same _ hs2)) rfl ty_26 (Sub.refl _) ⟨rfl, (hgt.pop hipl).put (Nat.le_refl _) _⟩
 ·skip
  have h1' := h1; (try simp only [decide_eq_true_eq, decide_eq_false_iff_not, Bool.not_eq_true', Bool.not_false, Bool.not_true, Bool.not_eq_false'] at h1')
  refine w_seq ?_
  refine w_region ?_
  refine l_cons rfl (p_cmp ?_)
  refine l_cons rfl (p_assign ?_)
  refine l_nil ?_
  refine k_seq_normal ?_
  refine w_b (fun h2 => ?_) (fun h2 => ?_)
  ·skip
   have h2' := h2; (try simp only [decide_eq_true_eq, decide_eq_false_iff_not, Bool.not_eq_true', Bool.not_false, Bool.not_true, Bool.not_eq_false'] at h2')
   refine w_seq ?_
   refine w_region ?_
   refine l_cons rfl (p_move ?_)
   refine l_cons rfl (p_call en_70 ((num_walk 256 (by omega) hgt.1).mono ?_))
   rintro _ es2 ⟨rfl, hg2⟩
   have hn2 := num_range (q := q.tail) (m := 256) (by omega)
   replace hgt := hgt.trans hg2
   have hs2 := hgt.top hipl
   refine l_cons rfl (p_conv in_3 in_5 ?_ (hb := wrap8 (n := num 256 q.tail) (by omega) (by omega)))
   refine l_cons rfl (p_move ?_)
   refine l_cons rfl (p_call en_70 ((num_walk 256 (by omega) hgt.1).mono ?_))
   rintro _ es3 ⟨rfl, hg3⟩
   have hn3 := num_range (q := q.tail.tail) (m := 256) (by omega)
   replace hgt := hgt.trans hg3
   have hs2 := hgt.top hipl
   refine l_cons rfl (p_conv in_3 in_5 ?_ (hb := wrap8 (n := num 256 q.tail.tail) (by omega) (by omega)))
   refine l_cons rfl (p_callr en_143 (refRange (num 256 q.tail) (num 256 q.tail.tail) hn2 hn3) ?_)
   refine l_cons rfl (p_store ty_26 ?_)
   refine l_nil ?_
   refine k_seq_normal ?_
   refine w_ret ?_
   refine k_blk_ret ?_
   refine k_seq_ret ?_
   rw [pSet_1 (by omega)]
   exact retc (he := loc_base (at_setAt_same _ hs2)) rfl ty_26 (Sub.refl _) ⟨rfl, (hgt.pop hipl).put (Nat.le_refl _) _⟩
  ·skip
   have h2' := h2; (try simp only [decide_eq_true_eq, decide_eq_false_iff_not, Bool.not_eq_true', Bool.not_false, Bool.not_true, Bool.not_eq_false'] at h2')
   refine w_seq ?_
   refine w_region ?_
   refine l_cons rfl (p_cmp ?_)
   refine l_cons rfl (p_assign ?_)
   refine l_nil ?_
   refine k_seq_normal ?_
   refine w_b (fun h3 => ?_) (fun h3 => ?_)
   ·skip
    have h3' := h3; (try simp only [decide_eq_true_eq, decide_eq_false_iff_not, Bool.not_eq_true', Bool.not_false, Bool.not_true, Bool.not_eq_false'] at h3')
    refine w_seq ?_
    refine w_region ?_
    refine l_cons rfl (p_move ?_)
    refine l_cons rfl (p_call en_70 ((num_walk 4 (by omega) hgt.1).mono ?_))
    rintro _ es2 ⟨rfl, hg2⟩
    have hn2 := num_range (q := q.tail) (m := 4) (by omega)
    replace hgt := hgt.trans hg2
    have hs2 := hgt.top hipl
    refine l_cons rfl (p_arith ?_)
    refine l_cons rfl (p_conv in_3 in_5 ?_ (hb := wrap8 (n := 97 + num 4 q.tail) (by omega) (by omega)))
    refine l_cons rfl (p_buildList sl_22 ze_5 ?_)
    refine l_cons rfl (p_callr en_68 (refOf [97 + num 4 q.tail] (one_byte (by omega))) ?_)
    refine l_cons rfl (p_callr en_144 (refNot (ofW [97 + num 4 q.tail]) (ofW_one (by omega) (by omega))) ?_)
    refine l_cons rfl (p_store ty_26 ?_)
    refine l_nil ?_
    refine k_seq_normal ?_
    refine w_ret ?_
    refine k_blk_ret ?_
    refine k_seq_ret ?_
    rw [pSet_2 (by omega)]
    exact retc (he := loc_base (at_setAt_same _ hs2)) rfl ty_26 (Sub.refl _) ⟨rfl, (hgt.pop hipl).put (Nat.le_refl _) _⟩
   ·skip
    have h3' := h3; (try simp only [decide_eq_true_eq, decide_eq_false_iff_not, Bool.not_eq_true', Bool.not_false, Bool.not_true, Bool.not_eq_false'] at h3')
    refine w_seq ?_
    refine w_region ?_
    refine l_cons rfl (p_cmp ?_)
    refine l_cons rfl (p_assign ?_)
    refine l_nil ?_
    refine k_seq_normal ?_
    refine w_b (fun h4 => ?_) (fun h4 => ?_)
    ·skip
     have h4' := h4; (try simp only [decide_eq_true_eq, decide_eq_false_iff_not, Bool.not_eq_true', Bool.not_false, Bool.not_true, Bool.not_eq_false'] at h4')
     refine w_seq ?_
     refine w_region ?_
     refine l_cons rfl (p_move ?_)
     refine l_cons rfl (p_call en_70 ((num_walk 4 (by omega) hgt.1).mono ?_))
     rintro _ es2 ⟨rfl, hg2⟩
     have hn2 := num_range (q := q.tail) (m := 4) (by omega)
     replace hgt := hgt.trans hg2
     have hs2 := hgt.top hipl
     refine l_cons rfl (p_arith ?_)
     refine l_cons rfl (p_conv in_3 in_5 ?_ (hb := wrap8 (n := 97 + num 4 q.tail) (by omega) (by omega)))
     refine l_cons rfl (p_move ?_)
     refine l_cons rfl (p_call en_70 ((num_walk 4 (by omega) hgt.1).mono ?_))
     rintro _ es3 ⟨rfl, hg3⟩
     have hn3 := num_range (q := q.tail.tail) (m := 4) (by omega)
     replace hgt := hgt.trans hg3
     have hs2 := hgt.top hipl
     refine l_cons rfl (p_arith ?_)
     refine l_cons rfl (p_conv in_3 in_5 ?_ (hb := wrap8 (n := 97 + num 4 q.tail.tail) (by omega) (by omega)))
     refine l_cons rfl (p_move ?_)
     refine l_cons rfl (p_call en_70 ((num_walk 256 (by omega) hgt.1).mono ?_))
     rintro _ es4 ⟨rfl, hg4⟩
     have hn4 := num_range (q := q.tail.tail.tail) (m := 256) (by omega)
     replace hgt := hgt.trans hg4
     have hs2 := hgt.top hipl
     refine l_cons rfl (p_conv in_3 in_5 ?_ (hb := wrap8 (n := num 256 q.tail.tail.tail) (by omega) (by omega)))
     refine l_cons rfl (p_buildList sl_22 ze_5 ?_)
     refine l_cons rfl (p_callr en_68 (refOf [97 + num 4 q.tail, 97 + num 4 q.tail.tail, num 256 q.tail.tail.tail] (three_bytes (by omega) (by omega) (by omega))) ?_)
     refine l_cons rfl (p_store ty_26 ?_)
     refine l_nil ?_
     refine k_seq_normal ?_
     refine w_ret ?_
     refine k_blk_ret ?_
     refine k_seq_ret ?_
     rw [pSet_3 (by omega)]
     exact retc (he := loc_base (at_setAt_same _ hs2)) rfl ty_26 (Sub.refl _) ⟨rfl, (hgt.pop hipl).put (Nat.le_refl _) _⟩
    ·skip
     have h4' := h4; (try simp only [decide_eq_true_eq, decide_eq_false_iff_not, Bool.not_eq_true', Bool.not_false, Bool.not_true, Bool.not_eq_false'] at h4')
     refine w_seq ?_
     refine w_region ?_
     refine l_cons rfl (p_cmp ?_)
     refine l_cons rfl (p_assign ?_)
     refine l_nil ?_
     refine k_seq_normal ?_
     refine w_b (fun h5 => ?_) (fun h5 => ?_)
     ·skip
      have h5' := h5; (try simp only [decide_eq_true_eq, decide_eq_false_iff_not, Bool.not_eq_true', Bool.not_false, Bool.not_true, Bool.not_eq_false'] at h5')
      refine w_seq ?_
      refine w_region ?_
      refine l_cons rfl (p_callr en_143 (refRange 0 255 (by omega) (by omega)) ?_)
      refine l_cons rfl (p_store ty_26 ?_)
      refine l_nil ?_
      refine k_seq_normal ?_
      refine w_ret ?_
      refine k_blk_ret ?_
      refine k_seq_ret ?_
      rw [pSet_4 (by omega)]
      exact retc (he := loc_base (at_setAt_same _ hs2)) rfl ty_26 (Sub.refl _) ⟨rfl, (hgt.pop hipl).put (Nat.le_refl _) _⟩
     ·skip
      have h5' := h5; (try simp only [decide_eq_true_eq, decide_eq_false_iff_not, Bool.not_eq_true', Bool.not_false, Bool.not_true, Bool.not_eq_false'] at h5')
      refine w_skip ?_
      refine k_blk_normal ?_
      refine k_seq_normal ?_
      refine w_seq ?_
      refine w_region ?_
      refine l_cons rfl (p_move ?_)
      refine l_cons rfl (p_call en_70 ((num_walk 4 (by omega) hgt.1).mono ?_))
      rintro _ es2 ⟨rfl, hg2⟩
      have hn2 := num_range (q := q.tail) (m := 4) (by omega)
      replace hgt := hgt.trans hg2
      have hs2 := hgt.top hipl
      refine l_cons rfl (p_arith ?_)
      refine l_cons rfl (p_conv in_3 in_5 ?_ (hb := wrap8 (n := 97 + num 4 q.tail) (by omega) (by omega)))
      refine l_cons rfl (p_buildList sl_22 ze_5 ?_)
      refine l_cons rfl (p_callr en_68 (refOf [97 + num 4 q.tail] (one_byte (by omega))) ?_)
      refine l_cons rfl (p_store ty_26 ?_)
      refine l_nil ?_
      refine k_seq_normal ?_
      refine w_ret ?_
      rw [pSet_5 (by omega)]
      exact retc (he := loc_base (at_setAt_same _ hs2)) rfl ty_26 (Sub.refl _) ⟨rfl, (hgt.pop hipl).put (Nat.le_refl _) _⟩
end Go.Proofs.YtfdgbghlanbddaaDoor.Av
set_option linter.unusedVariables false
set_option linter.unusedSimpArgs false
set_option maxRecDepth 8000
namespace Go.Proofs.YtfdgbghlanbddaaDoor.Av
open Go.RowKit Go.Proofs
theorem pRx_leaf {f : Nat} {q : List Int} (h : f = 0 ∨ q.tail = [] ∨ num 9 q < 3) : pRx f q = pLeaf (num 9 q) q.tail := by
 cases f with
 | zero => rfl
 | succ f => rw [pRx, if_pos (h.resolve_left (by omega))]
theorem pRx_cat {g : Nat} {q : List Int} (h : ¬ q.tail = []) (hk : num 9 q = 3 ∨ num 9 q = 4 ∨ num 9 q = 5) : pRx (g + 1) q = (catR [(pRx g q.tail).1, (pRx g (pRx g q.tail).2).1], (pRx g (pRx g q.tail).2).2) := by
 rw [pRx, if_neg (by rintro (e | e); exact h e; omega), if_pos hk]
theorem pRx_alt {g : Nat} {q : List Int} (h : ¬ q.tail = []) (hk : num 9 q = 6 ∨ num 9 q = 7) : pRx (g + 1) q = (altR [(pRx g q.tail).1, (pRx g (pRx g q.tail).2).1], (pRx g (pRx g q.tail).2).2) := by
 rw [pRx, if_neg (by rintro (e | e); exact h e; omega), if_neg (by omega), if_pos hk]
theorem pRx_star {g : Nat} {q : List Int} (h : ¬ q.tail = []) (hk : ¬ num 9 q < 3 ∧ ¬ (num 9 q = 3 ∨ num 9 q = 4 ∨ num 9 q = 5) ∧ ¬ (num 9 q = 6 ∨ num 9 q = 7)) : pRx (g + 1) q = (starR (pRx g q.tail).1, (pRx g q.tail).2) := by
 rw [pRx, if_neg (by rintro (e | e); exact h e; omega), if_neg (by omega), if_neg (by omega)]
theorem pLeaf_set {k : Int} {q : List Int} (h : q = [] ∨ 0 < k) : pLeaf k q = (bytesR (pSet q).1, (pSet q).2) := by unfold pLeaf; rw [if_pos h]
theorem pLeaf_none {k : Int} {q : List Int} (h : ¬ q = []) (hk : ¬ 0 < k) (hn : num 3 q = 0) : pLeaf k q = (noneR, q.tail) := by unfold pLeaf; rw [if_neg (by rintro (e | e); exact h e; omega), if_pos hn]
theorem pLeaf_empty {k : Int} {q : List Int} (h : ¬ q = []) (hk : ¬ 0 < k) (hn : ¬ num 3 q = 0) : pLeaf k q = (emptyR, q.tail) := by unfold pLeaf; rw [if_neg (by rintro (e | e); exact h e; omega), if_neg hn]
theorem pByte_0 {q : List Int} (h : num 8 q = 0) : pByte q = (num 256 q.tail, q.tail.tail) := by unfold pByte; rw [if_pos h]
theorem pByte_1 {q : List Int} (h : ¬ num 8 q = 0) : pByte q = (97 + num 4 q.tail, q.tail.tail) := by unfold pByte; rw [if_neg h]
theorem rx_walk {w0 : World} : ∀ f : Nat, f ≤ 9 → ∀ (es : List Ent) (ip sp : Nat) (q : List Int) (deep : Int), deep = 9 - f → PK es ip sp q → ACalls Tryd.prog w0 69 [.ptr ip sp 0 0, .int .i64 deep] es fun v es' => v = .agg (pRx f q).1.cells ∧ PG es es' ip sp (pRx f q).2 := by
 intro f
 induction f using Nat.strongRecOn with
 | _ f ih => ?_
 intro hf9 es ip sp q deep hdeep h
 have hipl := h.lt
 have hqb := h.bytes
 refine calls2 (N := 63) Tryd.func69 rfl rfl (by decide) ?_
 refine w_seq ?_
 refine w_region ?_
 refine l_cons rfl (p_alloc ze_29 fun s4 => ?_)
 refine l_nil ?_
 refine k_seq_normal ?_
 refine w_seq ?_
 refine w_region ?_
 refine l_cons rfl (p_move ?_)
 refine l_cons rfl (p_call en_70 ((num_walk 9 (by omega) (h.push _)).mono ?_))
 rintro _ es1 ⟨rfl, hgt⟩
 have hn1 := num_range (q := q) (m := 9) (by omega)
 have hs4 := hgt.top hipl
 refine l_cons rfl (p_assign ?_)
 refine l_nil ?_
 refine k_seq_normal ?_
 refine w_seq ?_
 refine w_seq ?_
 refine w_region ?_
 refine l_cons rfl (p_move ?_)
 refine l_cons rfl (p_callr en_106 (over_walk hgt.1) ?_)
 refine l_cons rfl (p_move ?_)
 refine g_b rfl (fun h1 => ?_) (fun h1 => ?_)
 ·skip
  have h1' := h1; (try simp only [decide_eq_true_eq, decide_eq_false_iff_not, Bool.not_eq_true', Bool.not_false, Bool.not_true, Bool.not_eq_false'] at h1')
  refine (p_move ?_)
  refine g_y rfl h1 (p_cmp ?_)
  refine l_cons rfl (p_pickf h1 ?_)
  refine l_cons rfl (p_move ?_)
  refine g_b rfl (fun h2 => ?_) (fun h2 => ?_)
  ·skip
   have h2' := h2; (try simp only [decide_eq_true_eq, decide_eq_false_iff_not, Bool.not_eq_true', Bool.not_false, Bool.not_true, Bool.not_eq_false'] at h2')
   refine (p_move ?_)
   refine g_y rfl h2 (p_cmp ?_)
   refine l_cons rfl (p_pickf h2 ?_)
   refine l_nil ?_
   refine k_seq_normal ?_
   refine w_b (fun h3 => ?_) (fun h3 => ?_)
   ·skip
    have h3' := h3; (try simp only [decide_eq_true_eq, decide_eq_false_iff_not, Bool.not_eq_true', Bool.not_false, Bool.not_true, Bool.not_eq_false'] at h3')
    refine w_seq ?_
    refine w_block ?_
    refine w_seq ?_
    refine w_region ?_
    refine l_cons rfl (p_move ?_)
    refine l_cons rfl (p_callr en_106 (over_walk hgt.1) ?_)
    refine l_cons rfl (p_move ?_)
    refine g_b rfl (fun h4 => ?_) (fun h4 => ?_)
    ·skip
     have h4' := h4; (try simp only [decide_eq_true_eq, decide_eq_false_iff_not, Bool.not_eq_true', Bool.not_false, Bool.not_true, Bool.not_eq_false'] at h4')
     refine (p_move ?_)
     refine g_y rfl h4 (p_cmp ?_)
     refine l_cons rfl (p_pickf h4 ?_)
     refine l_cons rfl (p_assign ?_)
     refine l_nil ?_
     refine k_seq_normal ?_
     refine w_b (fun h5 => ?_) (fun h5 => ?_)
     ·skip
      have h5' := h5; (try simp only [decide_eq_true_eq, decide_eq_false_iff_not, Bool.not_eq_true', Bool.not_false, Bool.not_true, Bool.not_eq_false'] at h5')
      refine w_seq ?_
      refine w_region ?_
      refine l_cons rfl (p_move ?_)
      refine l_cons rfl (p_call en_107 ((set_walk hgt.1).mono ?_))
      rintro _ es2 ⟨rfl, hg2⟩
      replace hgt := hgt.trans hg2
      have hs4 := hgt.top hipl
      refine l_cons rfl (p_callr en_67 (refBytes (pSet q.tail).1) ?_)
      refine l_cons rfl (p_store ty_29 ?_)
      refine l_nil ?_
      refine k_seq_normal ?_
      refine w_ret ?_
      refine k_blk_ret ?_
      refine k_seq_ret ?_
      refine k_seq_ret ?_
      rw [pRx_leaf (by first | (left; omega) | (right; right; omega) | (right; left; simp_all; done) | (right; left; assumption)), pLeaf_set (by first | (right; omega) | (left; assumption) | (left; simp_all; done))]
      exact retc (he := loc_base (at_setAt_same _ hs4)) rfl ty_29 (Sub.refl _) ⟨rfl, (hgt.pop hipl).put (Nat.le_refl _) _⟩
     ·skip
      have h5' := h5; (try simp only [decide_eq_true_eq, decide_eq_false_iff_not, Bool.not_eq_true', Bool.not_false, Bool.not_true, Bool.not_eq_false'] at h5')
      refine w_seq ?_
      refine w_region ?_
      refine l_cons rfl (p_move ?_)
      refine l_cons rfl (p_call en_70 ((num_walk 3 (by omega) hgt.1).mono ?_))
      rintro _ es2 ⟨rfl, hg2⟩
      replace hgt := hgt.trans hg2
      have hs4 := hgt.top hipl
      refine l_cons rfl (p_cmp ?_)
      refine l_cons rfl (p_assign ?_)
      refine l_nil ?_
      refine k_seq_normal ?_
      refine w_b (fun h6 => ?_) (fun h6 => ?_)
      ·skip
       have h6' := h6; (try simp only [decide_eq_true_eq, decide_eq_false_iff_not, Bool.not_eq_true', Bool.not_false, Bool.not_true, Bool.not_eq_false'] at h6')
       refine w_seq ?_
       refine w_region ?_
       refine l_cons rfl (p_callr en_84 (refNone) ?_)
       refine l_cons rfl (p_store ty_29 ?_)
       refine l_nil ?_
       refine k_seq_normal ?_
       refine w_ret ?_
       refine k_blk_ret ?_
       refine k_seq_ret ?_
       refine k_seq_ret ?_
       rw [pRx_leaf (by first | (left; omega) | (right; right; omega) | (right; left; simp_all; done) | (right; left; assumption)), pLeaf_none (by first | (simp_all; done) | assumption) (by omega) (by omega)]
       exact retc (he := loc_base (at_setAt_same _ hs4)) rfl ty_29 (Sub.refl _) ⟨rfl, (hgt.pop hipl).put (Nat.le_refl _) _⟩
      ·skip
       have h6' := h6; (try simp only [decide_eq_true_eq, decide_eq_false_iff_not, Bool.not_eq_true', Bool.not_false, Bool.not_true, Bool.not_eq_false'] at h6')
       refine w_skip ?_
       refine k_blk_normal ?_
       refine k_seq_normal ?_
       refine w_seq ?_
       refine w_region ?_
       refine l_cons rfl (p_callr en_85 (refEmpty) ?_)
       refine l_cons rfl (p_store ty_29 ?_)
       refine l_nil ?_
       refine k_seq_normal ?_
       refine w_ret ?_
       refine k_seq_ret ?_
       rw [pRx_leaf (by first | (left; omega) | (right; right; omega) | (right; left; simp_all; done) | (right; left; assumption)), pLeaf_empty (by first | (simp_all; done) | assumption) (by omega) (by omega)]
       exact retc (he := loc_base (at_setAt_same _ hs4)) rfl ty_29 (Sub.refl _) ⟨rfl, (hgt.pop hipl).put (Nat.le_refl _) _⟩
    ·skip
     have h4' := h4; (try simp only [decide_eq_true_eq, decide_eq_false_iff_not, Bool.not_eq_true', Bool.not_false, Bool.not_true, Bool.not_eq_false'] at h4')
     refine g_n rfl h4 ?_
     refine l_cons rfl (p_pickt h4 ?_)
     refine l_cons rfl (p_assign ?_)
     refine l_nil ?_
     refine k_seq_normal ?_
     refine w_t rfl ?_
     refine w_seq ?_
     refine w_region ?_
     refine l_cons rfl (p_move ?_)
     refine l_cons rfl (p_call en_107 ((set_walk hgt.1).mono ?_))
     rintro _ es2 ⟨rfl, hg2⟩
     replace hgt := hgt.trans hg2
     have hs4 := hgt.top hipl
     refine l_cons rfl (p_callr en_67 (refBytes (pSet q.tail).1) ?_)
     refine l_cons rfl (p_store ty_29 ?_)
     refine l_nil ?_
     refine k_seq_normal ?_
     refine w_ret ?_
     refine k_blk_ret ?_
     refine k_seq_ret ?_
     refine k_seq_ret ?_
     rw [pRx_leaf (by first | (left; omega) | (right; right; omega) | (right; left; simp_all; done) | (right; left; assumption)), pLeaf_set (by first | (right; omega) | (left; assumption) | (left; simp_all; done))]
     exact retc (he := loc_base (at_setAt_same _ hs4)) rfl ty_29 (Sub.refl _) ⟨rfl, (hgt.pop hipl).put (Nat.le_refl _) _⟩
   ·skip
    have h3' := h3; (try simp only [decide_eq_true_eq, decide_eq_false_iff_not, Bool.not_eq_true', Bool.not_false, Bool.not_true, Bool.not_eq_false'] at h3')
    refine w_skip ?_
    refine k_seq_normal ?_
    refine w_seq ?_
    obtain ⟨g, rfl⟩ : ∃ g, f = g + 1 := ⟨f - 1, by omega⟩
    have hok1 := pRx_ok g hqb.tail
    have hok3 := pRx_ok g hok1.2.1
    have hpw : 2 ^ (g + 1) ≤ 2 ^ 10 := Nat.pow_le_pow_right (by omega) (by omega)
    have hok2 : ∀ r ∈ [(pRx g q.tail).1, (pRx g (pRx g q.tail).2).1], r.ok := fun r hr => by
     simp only [List.mem_cons, List.not_mem_nil, or_false] at hr
     rcases hr with rfl | rfl
     ·exact hok1.1
     ·exact hok3.1
    refine w_region ?_
    refine l_cons rfl (p_move ?_)
    refine l_cons rfl (p_move ?_)
    refine l_cons rfl (p_arith ?_)
    refine l_cons rfl (p_call en_69 ((ih g (by omega) (by omega) _ ip sp q.tail (deep + 1) (by omega) hgt.1).mono ?_))
    rintro _ es2 ⟨rfl, hg2⟩
    replace hgt := hgt.trans hg2
    have hs4 := hgt.top hipl
    have hipl2 := hgt.1.lt
    refine l_cons rfl (p_alloc ze_29 fun s6 => ?_)
    refine l_cons rfl (p_store ty_29 ?_)
    refine l_nil ?_
    refine k_seq_normal ?_
    refine w_seq ?_
    refine w_seq ?_
    refine w_region ?_
    refine l_cons rfl (p_move ?_)
    refine l_nil ?_
    refine k_seq_normal ?_
    refine w_block ?_
    refine w_seq ?_
    refine w_seq ?_
    refine w_region ?_
    refine l_cons rfl (p_cmp ?_)
    refine l_cons rfl (p_assign ?_)
    refine l_nil ?_
    refine k_seq_normal ?_
    refine w_b (fun h7 => ?_) (fun h7 => ?_)
    ·skip
     have h7' := h7; (try simp only [decide_eq_true_eq, decide_eq_false_iff_not, Bool.not_eq_true', Bool.not_false, Bool.not_true, Bool.not_eq_false'] at h7')
     refine w_skip ?_
     refine k_seq_normal ?_
     refine w_t h7 ?_
     refine w_seq ?_
     refine w_drawn 5 [4] (fun e => at_ e es2.length = some (.row s6 29 6 [(pRx g q.tail).1.cells])) mixed (by kernel_rfl) (at_hit _ _) ?_
     refine q1 6 (hg := rfl) (hu := rfl) (h := by rintro f _ hG; exact p_loadp ty_29 ⟨rfl, rfl⟩) (k := ?_)
     refine q1 0 (hg := rfl) (hu := rfl) (h := by rintro f _ hG; exact p_move ⟨rfl, rfl⟩) (k := ?_)
     refine q1 1 (hg := rfl) (hu := rfl) (h := by rintro f _ hG; exact p_move ⟨rfl, rfl⟩) (k := ?_)
     refine q1 46 (hg := rfl) (hu := rfl) (h := by rintro f _ hG; exact p_arith ⟨rfl, rfl⟩) (k := ?_)
     refine q_end ?_
     refine m2 45 47 (hu := rfl) (h := fun f => p_call en_69 ((ih g (by omega) (by omega) _ ip sp (pRx g q.tail).2 (deep + 1) (by omega) (hgt.1.push _)).mono fun v es' hv => ?_))
     obtain ⟨rfl, hg3⟩ := hv
     have hs6 := hg3.top hipl2
     refine ⟨_, rfl, hs6, ?_⟩
     have hgt := hgt.trans (hg3.pop hipl2)
     have hs4 := hgt.top hipl
     refine m_end ?_
     refine l_cons rfl (p_buildList sl_27 ze_29 (rows := [(pRx g q.tail).1.cells, (pRx g (pRx g q.tail).2).1.cells]) ?_ (hr := rfl))
     refine l_cons rfl (p_callr en_39 (refCat [(pRx g q.tail).1, (pRx g (pRx g q.tail).2).1] (by simp only [Rx.nodesL]; omega)) ?_)
     refine l_cons rfl (p_store ty_29 ?_)
     refine l_nil ?_
     refine k_seq_normal ?_
     refine w_ret ?_
     refine k_blk_ret ?_
     refine k_seq_ret ?_
     rw [pRx_cat (by first | (simp_all; done) | assumption) (by omega)]
     exact retc (he := loc_base (at_setAt_same _ hs4)) rfl ty_29 (Sub.refl _) ⟨rfl, (hgt.pop hipl).put (Nat.le_refl _) _⟩
    ·skip
     have h7' := h7; (try simp only [decide_eq_true_eq, decide_eq_false_iff_not, Bool.not_eq_true', Bool.not_false, Bool.not_true, Bool.not_eq_false'] at h7')
     refine w_seq ?_
     refine w_region ?_
     refine l_cons rfl (p_cmp ?_)
     refine l_cons rfl (p_assign ?_)
     refine l_nil ?_
     refine k_seq_normal ?_
     refine w_b (fun h8 => ?_) (fun h8 => ?_)
     ·skip
      have h8' := h8; (try simp only [decide_eq_true_eq, decide_eq_false_iff_not, Bool.not_eq_true', Bool.not_false, Bool.not_true, Bool.not_eq_false'] at h8')
      refine w_skip ?_
      refine k_seq_normal ?_
      refine w_t h8 ?_
      refine w_seq ?_
      refine w_drawn 5 [4] (fun e => at_ e es2.length = some (.row s6 29 6 [(pRx g q.tail).1.cells])) mixed (by kernel_rfl) (at_hit _ _) ?_
      refine q1 6 (hg := rfl) (hu := rfl) (h := by rintro f _ hG; exact p_loadp ty_29 ⟨rfl, rfl⟩) (k := ?_)
      refine q1 0 (hg := rfl) (hu := rfl) (h := by rintro f _ hG; exact p_move ⟨rfl, rfl⟩) (k := ?_)
      refine q1 1 (hg := rfl) (hu := rfl) (h := by rintro f _ hG; exact p_move ⟨rfl, rfl⟩) (k := ?_)
      refine q1 46 (hg := rfl) (hu := rfl) (h := by rintro f _ hG; exact p_arith ⟨rfl, rfl⟩) (k := ?_)
      refine q_end ?_
      refine m2 45 47 (hu := rfl) (h := fun f => p_call en_69 ((ih g (by omega) (by omega) _ ip sp (pRx g q.tail).2 (deep + 1) (by omega) (hgt.1.push _)).mono fun v es' hv => ?_))
      obtain ⟨rfl, hg3⟩ := hv
      have hs6 := hg3.top hipl2
      refine ⟨_, rfl, hs6, ?_⟩
      have hgt := hgt.trans (hg3.pop hipl2)
      have hs4 := hgt.top hipl
      refine m_end ?_
      refine l_cons rfl (p_buildList sl_27 ze_29 (rows := [(pRx g q.tail).1.cells, (pRx g (pRx g q.tail).2).1.cells]) ?_ (hr := rfl))
      refine l_cons rfl (p_callr en_39 (refCat [(pRx g q.tail).1, (pRx g (pRx g q.tail).2).1] (by simp only [Rx.nodesL]; omega)) ?_)
      refine l_cons rfl (p_store ty_29 ?_)
      refine l_nil ?_
      refine k_seq_normal ?_
      refine w_ret ?_
      refine k_blk_ret ?_
      refine k_seq_ret ?_
      rw [pRx_cat (by first | (simp_all; done) | assumption) (by omega)]
      exact retc (he := loc_base (at_setAt_same _ hs4)) rfl ty_29 (Sub.refl _) ⟨rfl, (hgt.pop hipl).put (Nat.le_refl _) _⟩
     ·skip
      have h8' := h8; (try simp only [decide_eq_true_eq, decide_eq_false_iff_not, Bool.not_eq_true', Bool.not_false, Bool.not_true, Bool.not_eq_false'] at h8')
      refine w_region ?_
      refine l_cons rfl (p_cmp ?_)
      refine l_cons rfl (p_assign ?_)
      refine l_nil ?_
      refine k_seq_normal ?_
      refine w_b (fun h9 => ?_) (fun h9 => ?_)
      ·skip
       have h9' := h9; (try simp only [decide_eq_true_eq, decide_eq_false_iff_not, Bool.not_eq_true', Bool.not_false, Bool.not_true, Bool.not_eq_false'] at h9')
       refine w_seq ?_
       refine w_drawn 5 [4] (fun e => at_ e es2.length = some (.row s6 29 6 [(pRx g q.tail).1.cells])) mixed (by kernel_rfl) (at_hit _ _) ?_
       refine q1 6 (hg := rfl) (hu := rfl) (h := by rintro f _ hG; exact p_loadp ty_29 ⟨rfl, rfl⟩) (k := ?_)
       refine q1 0 (hg := rfl) (hu := rfl) (h := by rintro f _ hG; exact p_move ⟨rfl, rfl⟩) (k := ?_)
       refine q1 1 (hg := rfl) (hu := rfl) (h := by rintro f _ hG; exact p_move ⟨rfl, rfl⟩) (k := ?_)
       refine q1 46 (hg := rfl) (hu := rfl) (h := by rintro f _ hG; exact p_arith ⟨rfl, rfl⟩) (k := ?_)
       refine q_end ?_
       refine m2 45 47 (hu := rfl) (h := fun f => p_call en_69 ((ih g (by omega) (by omega) _ ip sp (pRx g q.tail).2 (deep + 1) (by omega) (hgt.1.push _)).mono fun v es' hv => ?_))
       obtain ⟨rfl, hg3⟩ := hv
       have hs6 := hg3.top hipl2
       refine ⟨_, rfl, hs6, ?_⟩
       have hgt := hgt.trans (hg3.pop hipl2)
       have hs4 := hgt.top hipl
       refine m_end ?_
       refine l_cons rfl (p_buildList sl_27 ze_29 (rows := [(pRx g q.tail).1.cells, (pRx g (pRx g q.tail).2).1.cells]) ?_ (hr := rfl))
       refine l_cons rfl (p_callr en_39 (refCat [(pRx g q.tail).1, (pRx g (pRx g q.tail).2).1] (by simp only [Rx.nodesL]; omega)) ?_)
       refine l_cons rfl (p_store ty_29 ?_)
       refine l_nil ?_
       refine k_seq_normal ?_
       refine w_ret ?_
       refine k_blk_ret ?_
       refine k_seq_ret ?_
       rw [pRx_cat (by first | (simp_all; done) | assumption) (by omega)]
       exact retc (he := loc_base (at_setAt_same _ hs4)) rfl ty_29 (Sub.refl _) ⟨rfl, (hgt.pop hipl).put (Nat.le_refl _) _⟩
      ·skip
       have h9' := h9; (try simp only [decide_eq_true_eq, decide_eq_false_iff_not, Bool.not_eq_true', Bool.not_false, Bool.not_true, Bool.not_eq_false'] at h9')
       refine w_seq ?_
       refine w_seq ?_
       refine w_region ?_
       refine l_cons rfl (p_cmp ?_)
       refine l_cons rfl (p_assign ?_)
       refine l_nil ?_
       refine k_seq_normal ?_
       refine w_b (fun h10 => ?_) (fun h10 => ?_)
       ·skip
        have h10' := h10; (try simp only [decide_eq_true_eq, decide_eq_false_iff_not, Bool.not_eq_true', Bool.not_false, Bool.not_true, Bool.not_eq_false'] at h10')
        refine w_skip ?_
        refine k_seq_normal ?_
        refine w_t h10 ?_
        refine w_seq ?_
        refine w_drawn 5 [4] (fun e => at_ e es2.length = some (.row s6 29 6 [(pRx g q.tail).1.cells])) mixed (by kernel_rfl) (at_hit _ _) ?_
        refine q1 6 (hg := rfl) (hu := rfl) (h := by rintro f _ hG; exact p_loadp ty_29 ⟨rfl, rfl⟩) (k := ?_)
        refine q1 0 (hg := rfl) (hu := rfl) (h := by rintro f _ hG; exact p_move ⟨rfl, rfl⟩) (k := ?_)
        refine q1 1 (hg := rfl) (hu := rfl) (h := by rintro f _ hG; exact p_move ⟨rfl, rfl⟩) (k := ?_)
        refine q1 56 (hg := rfl) (hu := rfl) (h := by rintro f _ hG; exact p_arith ⟨rfl, rfl⟩) (k := ?_)
        refine q_end ?_
        refine m2 55 57 (hu := rfl) (h := fun f => p_call en_69 ((ih g (by omega) (by omega) _ ip sp (pRx g q.tail).2 (deep + 1) (by omega) (hgt.1.push _)).mono fun v es' hv => ?_))
        obtain ⟨rfl, hg3⟩ := hv
        have hs6 := hg3.top hipl2
        refine ⟨_, rfl, hs6, ?_⟩
        have hgt := hgt.trans (hg3.pop hipl2)
        have hs4 := hgt.top hipl
        refine m_end ?_
        refine l_cons rfl (p_buildList sl_27 ze_29 (rows := [(pRx g q.tail).1.cells, (pRx g (pRx g q.tail).2).1.cells]) ?_ (hr := rfl))
        refine l_cons rfl (p_callr en_40 (refAlt [(pRx g q.tail).1, (pRx g (pRx g q.tail).2).1] hok2 (by simp only [Rx.nodesL]; omega)) ?_)
        refine l_cons rfl (p_store ty_29 ?_)
        refine l_nil ?_
        refine k_seq_normal ?_
        refine w_ret ?_
        refine k_blk_ret ?_
        refine k_seq_ret ?_
        rw [pRx_alt (by first | (simp_all; done) | assumption) (by omega)]
        exact retc (he := loc_base (at_setAt_same _ hs4)) rfl ty_29 (Sub.refl _) ⟨rfl, (hgt.pop hipl).put (Nat.le_refl _) _⟩
       ·skip
        have h10' := h10; (try simp only [decide_eq_true_eq, decide_eq_false_iff_not, Bool.not_eq_true', Bool.not_false, Bool.not_true, Bool.not_eq_false'] at h10')
        refine w_region ?_
        refine l_cons rfl (p_cmp ?_)
        refine l_cons rfl (p_assign ?_)
        refine l_nil ?_
        refine k_seq_normal ?_
        refine w_b (fun h11 => ?_) (fun h11 => ?_)
        ·skip
         have h11' := h11; (try simp only [decide_eq_true_eq, decide_eq_false_iff_not, Bool.not_eq_true', Bool.not_false, Bool.not_true, Bool.not_eq_false'] at h11')
         refine w_seq ?_
         refine w_drawn 5 [4] (fun e => at_ e es2.length = some (.row s6 29 6 [(pRx g q.tail).1.cells])) mixed (by kernel_rfl) (at_hit _ _) ?_
         refine q1 6 (hg := rfl) (hu := rfl) (h := by rintro f _ hG; exact p_loadp ty_29 ⟨rfl, rfl⟩) (k := ?_)
         refine q1 0 (hg := rfl) (hu := rfl) (h := by rintro f _ hG; exact p_move ⟨rfl, rfl⟩) (k := ?_)
         refine q1 1 (hg := rfl) (hu := rfl) (h := by rintro f _ hG; exact p_move ⟨rfl, rfl⟩) (k := ?_)
         refine q1 56 (hg := rfl) (hu := rfl) (h := by rintro f _ hG; exact p_arith ⟨rfl, rfl⟩) (k := ?_)
         refine q_end ?_
         refine m2 55 57 (hu := rfl) (h := fun f => p_call en_69 ((ih g (by omega) (by omega) _ ip sp (pRx g q.tail).2 (deep + 1) (by omega) (hgt.1.push _)).mono fun v es' hv => ?_))
         obtain ⟨rfl, hg3⟩ := hv
         have hs6 := hg3.top hipl2
         refine ⟨_, rfl, hs6, ?_⟩
         have hgt := hgt.trans (hg3.pop hipl2)
         have hs4 := hgt.top hipl
         refine m_end ?_
         refine l_cons rfl (p_buildList sl_27 ze_29 (rows := [(pRx g q.tail).1.cells, (pRx g (pRx g q.tail).2).1.cells]) ?_ (hr := rfl))
         refine l_cons rfl (p_callr en_40 (refAlt [(pRx g q.tail).1, (pRx g (pRx g q.tail).2).1] hok2 (by simp only [Rx.nodesL]; omega)) ?_)
         refine l_cons rfl (p_store ty_29 ?_)
         refine l_nil ?_
         refine k_seq_normal ?_
         refine w_ret ?_
         refine k_blk_ret ?_
         refine k_seq_ret ?_
         rw [pRx_alt (by first | (simp_all; done) | assumption) (by omega)]
         exact retc (he := loc_base (at_setAt_same _ hs4)) rfl ty_29 (Sub.refl _) ⟨rfl, (hgt.pop hipl).put (Nat.le_refl _) _⟩
        ·skip
         have h11' := h11; (try simp only [decide_eq_true_eq, decide_eq_false_iff_not, Bool.not_eq_true', Bool.not_false, Bool.not_true, Bool.not_eq_false'] at h11')
         refine w_skip ?_
         refine k_blk_normal ?_
         refine k_seq_normal ?_
         refine w_seq ?_
         have hs6 : at_ (Ent.row s6 29 6 [(pRx g q.tail).1.cells] :: es2) es2.length = some (.row s6 29 6 [(pRx g q.tail).1.cells]) := at_hit _ _
         refine w_region ?_
         refine l_cons rfl (p_loadp ty_29 ?_)
         refine l_cons rfl (p_callr en_41 (refStarR (pRx g q.tail).1 (by omega) hok1.1) ?_)
         refine l_cons rfl (p_store ty_29 ?_)
         refine l_nil ?_
         refine k_seq_normal ?_
         refine w_ret ?_
         rw [pRx_star (by first | (simp_all; done) | assumption) (by omega)]
         exact retc (he := loc_miss (loc_base (at_setAt_same _ hs4))) rfl ty_29 (Sub.refl _) ⟨rfl, ((hgt.pop hipl).put (Nat.le_refl _) _).up _⟩
  ·skip
   have h2' := h2; (try simp only [decide_eq_true_eq, decide_eq_false_iff_not, Bool.not_eq_true', Bool.not_false, Bool.not_true, Bool.not_eq_false'] at h2')
   refine g_n rfl h2 ?_
   refine l_cons rfl (p_pickt h2 ?_)
   refine l_nil ?_
   refine k_seq_normal ?_
   refine w_t rfl ?_
   refine w_seq ?_
   refine w_block ?_
   refine w_seq ?_
   refine w_region ?_
   refine l_cons rfl (p_move ?_)
   refine l_cons rfl (p_callr en_106 (over_walk hgt.1) ?_)
   refine l_cons rfl (p_move ?_)
   refine g_b rfl (fun h12 => ?_) (fun h12 => ?_)
   ·skip
    have h12' := h12; (try simp only [decide_eq_true_eq, decide_eq_false_iff_not, Bool.not_eq_true', Bool.not_false, Bool.not_true, Bool.not_eq_false'] at h12')
    refine (p_move ?_)
    refine g_y rfl h12 (p_cmp ?_)
    refine l_cons rfl (p_pickf h12 ?_)
    refine l_cons rfl (p_assign ?_)
    refine l_nil ?_
    refine k_seq_normal ?_
    refine w_b (fun h13 => ?_) (fun h13 => ?_)
    ·skip
     have h13' := h13; (try simp only [decide_eq_true_eq, decide_eq_false_iff_not, Bool.not_eq_true', Bool.not_false, Bool.not_true, Bool.not_eq_false'] at h13')
     refine w_seq ?_
     refine w_region ?_
     refine l_cons rfl (p_move ?_)
     refine l_cons rfl (p_call en_107 ((set_walk hgt.1).mono ?_))
     rintro _ es2 ⟨rfl, hg2⟩
     replace hgt := hgt.trans hg2
     have hs4 := hgt.top hipl
     refine l_cons rfl (p_callr en_67 (refBytes (pSet q.tail).1) ?_)
     refine l_cons rfl (p_store ty_29 ?_)
     refine l_nil ?_
     refine k_seq_normal ?_
     refine w_ret ?_
     refine k_blk_ret ?_
     refine k_seq_ret ?_
     refine k_seq_ret ?_
     rw [pRx_leaf (by first | (left; omega) | (right; right; omega) | (right; left; simp_all; done) | (right; left; assumption)), pLeaf_set (by first | (right; omega) | (left; assumption) | (left; simp_all; done))]
     exact retc (he := loc_base (at_setAt_same _ hs4)) rfl ty_29 (Sub.refl _) ⟨rfl, (hgt.pop hipl).put (Nat.le_refl _) _⟩
    ·skip
     have h13' := h13; (try simp only [decide_eq_true_eq, decide_eq_false_iff_not, Bool.not_eq_true', Bool.not_false, Bool.not_true, Bool.not_eq_false'] at h13')
     refine w_seq ?_
     refine w_region ?_
     refine l_cons rfl (p_move ?_)
     refine l_cons rfl (p_call en_70 ((num_walk 3 (by omega) hgt.1).mono ?_))
     rintro _ es2 ⟨rfl, hg2⟩
     replace hgt := hgt.trans hg2
     have hs4 := hgt.top hipl
     refine l_cons rfl (p_cmp ?_)
     refine l_cons rfl (p_assign ?_)
     refine l_nil ?_
     refine k_seq_normal ?_
     refine w_b (fun h14 => ?_) (fun h14 => ?_)
     ·skip
      have h14' := h14; (try simp only [decide_eq_true_eq, decide_eq_false_iff_not, Bool.not_eq_true', Bool.not_false, Bool.not_true, Bool.not_eq_false'] at h14')
      refine w_seq ?_
      refine w_region ?_
      refine l_cons rfl (p_callr en_84 (refNone) ?_)
      refine l_cons rfl (p_store ty_29 ?_)
      refine l_nil ?_
      refine k_seq_normal ?_
      refine w_ret ?_
      refine k_blk_ret ?_
      refine k_seq_ret ?_
      refine k_seq_ret ?_
      rw [pRx_leaf (by first | (left; omega) | (right; right; omega) | (right; left; simp_all; done) | (right; left; assumption)), pLeaf_none (by first | (simp_all; done) | assumption) (by omega) (by omega)]
      exact retc (he := loc_base (at_setAt_same _ hs4)) rfl ty_29 (Sub.refl _) ⟨rfl, (hgt.pop hipl).put (Nat.le_refl _) _⟩
     ·skip
      have h14' := h14; (try simp only [decide_eq_true_eq, decide_eq_false_iff_not, Bool.not_eq_true', Bool.not_false, Bool.not_true, Bool.not_eq_false'] at h14')
      refine w_skip ?_
      refine k_blk_normal ?_
      refine k_seq_normal ?_
      refine w_seq ?_
      refine w_region ?_
      refine l_cons rfl (p_callr en_85 (refEmpty) ?_)
      refine l_cons rfl (p_store ty_29 ?_)
      refine l_nil ?_
      refine k_seq_normal ?_
      refine w_ret ?_
      refine k_seq_ret ?_
      rw [pRx_leaf (by first | (left; omega) | (right; right; omega) | (right; left; simp_all; done) | (right; left; assumption)), pLeaf_empty (by first | (simp_all; done) | assumption) (by omega) (by omega)]
      exact retc (he := loc_base (at_setAt_same _ hs4)) rfl ty_29 (Sub.refl _) ⟨rfl, (hgt.pop hipl).put (Nat.le_refl _) _⟩
   ·skip
    have h12' := h12; (try simp only [decide_eq_true_eq, decide_eq_false_iff_not, Bool.not_eq_true', Bool.not_false, Bool.not_true, Bool.not_eq_false'] at h12')
    refine g_n rfl h12 ?_
    refine l_cons rfl (p_pickt h12 ?_)
    refine l_cons rfl (p_assign ?_)
    refine l_nil ?_
    refine k_seq_normal ?_
    refine w_t rfl ?_
    refine w_seq ?_
    refine w_region ?_
    refine l_cons rfl (p_move ?_)
    refine l_cons rfl (p_call en_107 ((set_walk hgt.1).mono ?_))
    rintro _ es2 ⟨rfl, hg2⟩
    replace hgt := hgt.trans hg2
    have hs4 := hgt.top hipl
    refine l_cons rfl (p_callr en_67 (refBytes (pSet q.tail).1) ?_)
    refine l_cons rfl (p_store ty_29 ?_)
    refine l_nil ?_
    refine k_seq_normal ?_
    refine w_ret ?_
    refine k_blk_ret ?_
    refine k_seq_ret ?_
    refine k_seq_ret ?_
    rw [pRx_leaf (by first | (left; omega) | (right; right; omega) | (right; left; simp_all; done) | (right; left; assumption)), pLeaf_set (by first | (right; omega) | (left; assumption) | (left; simp_all; done))]
    exact retc (he := loc_base (at_setAt_same _ hs4)) rfl ty_29 (Sub.refl _) ⟨rfl, (hgt.pop hipl).put (Nat.le_refl _) _⟩
 ·skip
  have h1' := h1; (try simp only [decide_eq_true_eq, decide_eq_false_iff_not, Bool.not_eq_true', Bool.not_false, Bool.not_true, Bool.not_eq_false'] at h1')
  refine g_n rfl h1 ?_
  refine l_cons rfl (p_pickt h1 ?_)
  refine l_cons rfl (p_move ?_)
  refine g_n rfl rfl ?_
  refine g_n rfl rfl ?_
  refine l_cons rfl (p_pickt rfl ?_)
  refine l_nil ?_
  refine k_seq_normal ?_
  refine w_t rfl ?_
  refine w_seq ?_
  refine w_block ?_
  refine w_seq ?_
  refine w_region ?_
  refine l_cons rfl (p_move ?_)
  refine l_cons rfl (p_callr en_106 (over_walk hgt.1) ?_)
  refine l_cons rfl (p_move ?_)
  refine g_b rfl (fun h15 => ?_) (fun h15 => ?_)
  ·skip
   have h15' := h15; (try simp only [decide_eq_true_eq, decide_eq_false_iff_not, Bool.not_eq_true', Bool.not_false, Bool.not_true, Bool.not_eq_false'] at h15')
   refine (p_move ?_)
   refine g_y rfl h15 (p_cmp ?_)
   refine l_cons rfl (p_pickf h15 ?_)
   refine l_cons rfl (p_assign ?_)
   refine l_nil ?_
   refine k_seq_normal ?_
   refine w_b (fun h16 => ?_) (fun h16 => ?_)
   ·skip
    have h16' := h16; (try simp only [decide_eq_true_eq, decide_eq_false_iff_not, Bool.not_eq_true', Bool.not_false, Bool.not_true, Bool.not_eq_false'] at h16')
    refine w_seq ?_
    refine w_region ?_
    refine l_cons rfl (p_move ?_)
    refine l_cons rfl (p_call en_107 ((set_walk hgt.1).mono ?_))
    rintro _ es2 ⟨rfl, hg2⟩
    replace hgt := hgt.trans hg2
    have hs4 := hgt.top hipl
    refine l_cons rfl (p_callr en_67 (refBytes (pSet q.tail).1) ?_)
    refine l_cons rfl (p_store ty_29 ?_)
    refine l_nil ?_
    refine k_seq_normal ?_
    refine w_ret ?_
    refine k_blk_ret ?_
    refine k_seq_ret ?_
    refine k_seq_ret ?_
    rw [pRx_leaf (by first | (left; omega) | (right; right; omega) | (right; left; simp_all; done) | (right; left; assumption)), pLeaf_set (by first | (right; omega) | (left; assumption) | (left; simp_all; done))]
    exact retc (he := loc_base (at_setAt_same _ hs4)) rfl ty_29 (Sub.refl _) ⟨rfl, (hgt.pop hipl).put (Nat.le_refl _) _⟩
   ·skip
    have h16' := h16; (try simp only [decide_eq_true_eq, decide_eq_false_iff_not, Bool.not_eq_true', Bool.not_false, Bool.not_true, Bool.not_eq_false'] at h16')
    refine w_seq ?_
    refine w_region ?_
    refine l_cons rfl (p_move ?_)
    refine l_cons rfl (p_call en_70 ((num_walk 3 (by omega) hgt.1).mono ?_))
    rintro _ es2 ⟨rfl, hg2⟩
    replace hgt := hgt.trans hg2
    have hs4 := hgt.top hipl
    refine l_cons rfl (p_cmp ?_)
    refine l_cons rfl (p_assign ?_)
    refine l_nil ?_
    refine k_seq_normal ?_
    refine w_b (fun h17 => ?_) (fun h17 => ?_)
    ·skip
     have h17' := h17; (try simp only [decide_eq_true_eq, decide_eq_false_iff_not, Bool.not_eq_true', Bool.not_false, Bool.not_true, Bool.not_eq_false'] at h17')
     refine w_seq ?_
     refine w_region ?_
     refine l_cons rfl (p_callr en_84 (refNone) ?_)
     refine l_cons rfl (p_store ty_29 ?_)
     refine l_nil ?_
     refine k_seq_normal ?_
     refine w_ret ?_
     refine k_blk_ret ?_
     refine k_seq_ret ?_
     refine k_seq_ret ?_
     rw [pRx_leaf (by first | (left; omega) | (right; right; omega) | (right; left; simp_all; done) | (right; left; assumption)), pLeaf_none (by first | (simp_all; done) | assumption) (by omega) (by omega)]
     exact retc (he := loc_base (at_setAt_same _ hs4)) rfl ty_29 (Sub.refl _) ⟨rfl, (hgt.pop hipl).put (Nat.le_refl _) _⟩
    ·skip
     have h17' := h17; (try simp only [decide_eq_true_eq, decide_eq_false_iff_not, Bool.not_eq_true', Bool.not_false, Bool.not_true, Bool.not_eq_false'] at h17')
     refine w_skip ?_
     refine k_blk_normal ?_
     refine k_seq_normal ?_
     refine w_seq ?_
     refine w_region ?_
     refine l_cons rfl (p_callr en_85 (refEmpty) ?_)
     refine l_cons rfl (p_store ty_29 ?_)
     refine l_nil ?_
     refine k_seq_normal ?_
     refine w_ret ?_
     refine k_seq_ret ?_
     rw [pRx_leaf (by first | (left; omega) | (right; right; omega) | (right; left; simp_all; done) | (right; left; assumption)), pLeaf_empty (by first | (simp_all; done) | assumption) (by omega) (by omega)]
     exact retc (he := loc_base (at_setAt_same _ hs4)) rfl ty_29 (Sub.refl _) ⟨rfl, (hgt.pop hipl).put (Nat.le_refl _) _⟩
  ·skip
   have h15' := h15; (try simp only [decide_eq_true_eq, decide_eq_false_iff_not, Bool.not_eq_true', Bool.not_false, Bool.not_true, Bool.not_eq_false'] at h15')
   refine g_n rfl h15 ?_
   refine l_cons rfl (p_pickt h15 ?_)
   refine l_cons rfl (p_assign ?_)
   refine l_nil ?_
   refine k_seq_normal ?_
   refine w_t rfl ?_
   refine w_seq ?_
   refine w_region ?_
   refine l_cons rfl (p_move ?_)
   refine l_cons rfl (p_call en_107 ((set_walk hgt.1).mono ?_))
   rintro _ es2 ⟨rfl, hg2⟩
   replace hgt := hgt.trans hg2
   have hs4 := hgt.top hipl
   refine l_cons rfl (p_callr en_67 (refBytes (pSet q.tail).1) ?_)
   refine l_cons rfl (p_store ty_29 ?_)
   refine l_nil ?_
   refine k_seq_normal ?_
   refine w_ret ?_
   refine k_blk_ret ?_
   refine k_seq_ret ?_
   refine k_seq_ret ?_
   rw [pRx_leaf (by first | (left; omega) | (right; right; omega) | (right; left; simp_all; done) | (right; left; assumption)), pLeaf_set (by first | (right; omega) | (left; assumption) | (left; simp_all; done))]
   exact retc (he := loc_base (at_setAt_same _ hs4)) rfl ty_29 (Sub.refl _) ⟨rfl, (hgt.pop hipl).put (Nat.le_refl _) _⟩
theorem Rx_walk {w0 : World} {es : List Ent} {ip sp : Nat} {q : List Int} (h : PK es ip sp q) : ACalls Tryd.prog w0 25 [.ptr ip sp 0 0] es fun v es' => v = .agg (pRx 9 q).1.cells ∧ PG es es' ip sp (pRx 9 q).2 := by
 have hipl := h.lt
 refine calls1 (N := 5) Tryd.func25 rfl rfl (by decide) ?_
 refine w_seq ?_
 refine w_region ?_
 refine l_cons rfl (p_alloc ze_29 fun s2 => ?_)
 refine l_nil ?_
 refine k_seq_normal ?_
 refine w_seq ?_
 refine w_region ?_
 refine l_cons rfl (p_move ?_)
 refine l_cons rfl (p_call en_69 ((rx_walk 9 (by omega) _ ip sp q 0 (by omega) (h.push _)).mono ?_))
 rintro _ es1 ⟨rfl, hgt⟩
 have hs4 := hgt.top hipl
 refine l_cons rfl (p_store ty_29 ?_)
 refine l_nil ?_
 refine k_seq_normal ?_
 refine w_ret ?_
 exact retc (he := loc_base (at_setAt_same _ hs4)) rfl ty_29 (Sub.refl _) ⟨rfl, (hgt.pop hipl).put (Nat.le_refl _) _⟩
theorem word_walk {w0 : World} {es : List Ent} {ip sp : Nat} {q : List Int} (most : Nat) (hm : most ≤ 1000) (h : PK es ip sp q) : ACalls Tryd.prog w0 26 [.ptr ip sp 0 0, .int .i64 (most : Int)] es fun v es' => v = bytesAV (pWord most q) ∧ ∃ q', PG es es' ip sp q' := by
 have hipl := h.lt
 refine calls2 (N := 32) Tryd.func26 rfl rfl (by decide) ?_
 refine w_seq ?_
 refine w_region ?_
 refine l_cons rfl (p_assign ?_)
 refine l_nil ?_
 refine k_seq_normal ?_
 refine w_seq ?_
 refine w_region ?_
 refine l_cons rfl (p_assign ?_)
 refine l_nil ?_
 refine k_seq_normal ?_
 refine w_seq ?_
 refine w_seq ?_
 refine w_adopt 5 5 1 rfl fun s5 => ?_
 simp only [upd_upd]
 refine w_region ?_
 refine l_cons rfl (p_move ?_)
 refine l_cons rfl (p_move ?_)
 refine l_cons rfl (p_arith ?_)
 refine l_cons rfl (p_call en_70 ((num_walk ((most : Int) + 1) (by omega) (h.push _)).mono ?_))
 rintro _ es1 ⟨rfl, hgt⟩
 have hn0 := num_range (q := q) (m := (most : Int) + 1) (by omega)
 have hs5 := hgt.top hipl
 refine l_cons rfl (p_assign ?_)
 refine l_nil ?_
 refine k_seq_normal ?_
 refine w_block ?_
 refine w_loop (fun m f es2 => ∃ k out s5 q2, m = k ∧ out ++ pWordGo k q2 = pWord most q ∧ out.length + k ≤ most ∧ at_ es2 es.length = some (.row s5 5 1 ((out).map fun n => [.int .u8 n])) ∧ es.length < es2.length ∧ PG es es2 ip sp q2 ∧ Knows f [(0, .ptr ip sp 0 0), (5, .own es.length s5), (6, .int .i64 (k : Int))]) ((num (most + 1) q).toNat) (⟨(num (most + 1) q).toNat, [], s5, q.tail, rfl, rfl, by simp only [List.length_nil]; omega, hs5, Nat.lt_of_lt_of_le (Nat.lt_succ_self _) hgt.2.2, hgt.pop hipl, by rw [Int.toNat_of_nonneg hn0.1]; exact by simp only [Knows, put, upd_apply, Nat.reduceEqDiff, ↓reduceIte, and_true, true_and, eq_self] <;> and_intros <;> rfl⟩) ?_
 rintro m f es2 ⟨k, out, s5, q2, rfl, ho, hol, hs5, hel, hgt, hk⟩
 refine w_pins _ (Sub.refl _) (hk) ?_
 simp only [pins]
 refine w_seq ?_
 refine w_seq ?_
 refine w_region ?_
 refine l_cons rfl (p_move ?_)
 refine l_cons rfl (p_cmp ?_)
 refine l_nil ?_
 refine k_seq_normal ?_
 refine w_b (fun h1 => ?_) (fun h1 => ?_)
 ·skip
  have h1' := h1; (try simp only [decide_eq_true_eq, decide_eq_false_iff_not, Bool.not_eq_true', Bool.not_false, Bool.not_true, Bool.not_eq_false'] at h1')
  refine w_skip ?_
  refine k_seq_normal ?_
  refine w_seq ?_
  refine w_block ?_
  refine w_seq ?_
  refine w_region ?_
  refine l_cons rfl (p_move ?_)
  refine l_cons rfl (p_call en_70 ((num_walk 8 (by omega) hgt.1).mono ?_))
  rintro _ es3 ⟨rfl, hg2⟩
  have hn2 := num_range (q := q2) (m := 8) (by omega)
  have hgt2 := hgt.trans hg2
  have hs5' := (hg2.2.1 _ (by omega) hel).trans hs5
  refine l_cons rfl (p_cmp ?_)
  refine l_nil ?_
  refine k_seq_normal ?_
  refine w_b (fun h2 => ?_) (fun h2 => ?_)
  ·skip
   have h2' := h2; (try simp only [decide_eq_true_eq, decide_eq_false_iff_not, Bool.not_eq_true', Bool.not_false, Bool.not_true, Bool.not_eq_false'] at h2')
   refine w_region ?_
   refine l_cons rfl (p_move ?_)
   refine l_cons rfl (p_move ?_)
   refine l_cons rfl (p_call en_70 ((num_walk 256 (by omega) hgt2.1).mono ?_))
   rintro _ es4 ⟨rfl, hg3⟩
   have hn3 := num_range (q := q2.tail) (m := 256) (by omega)
   have hgt3 := hgt2.trans hg3
   have hel3 := Nat.lt_of_lt_of_le hel hg2.2.2
   have hs5'' := (hg3.2.1 _ (by omega) hel3).trans hs5'
   refine l_cons rfl (p_conv in_3 in_5 ?_ (hb := wrap8 (n := num 256 q2.tail) (by omega) (by omega)))
   refine l_cons rfl (p_buildList sl_22 ze_5 ?_)
   refine l_cons rfl (p_append sl_22 by_5 ze_5 (fun s23 => ?_) (hb := by simp only [List.length_map, List.length_cons, List.length_nil, Go.Proofs.YtfdgbghlanbddaaDoor.Av.most]; omega))
   refine l_cons rfl (p_assign ?_)
   refine l_nil ?_
   refine k_blk_normal ?_
   refine k_seq_normal ?_
   refine w_region ?_
   refine l_cons rfl (p_move ?_)
   refine l_cons rfl (p_arith ?_)
   refine l_cons rfl (p_assign ?_)
   refine l_nil ?_
   refine k_seq_normal ?_
   obtain ⟨j, rfl⟩ : ∃ j, m = j + 1 := ⟨m - 1, by omega⟩
   first
   | exact ⟨j, by omega, j, out ++ [(pByte q2).1], s23, (pByte q2).2, rfl, by rw [← ho, pWordGo, List.append_assoc]; rfl, by simp; omega, by rw [pByte_0 (by omega)]; have hx := at_setAt_same (.row s23 5 1 (((out).map fun n => [.int .u8 n]) ++ [[.int .u8 (num 256 q2.tail)]])) hs5''; rw [List.map_append]; exact hx, by rw [setAt_len]; have := hg3.2.2; omega, by rw [pByte_0 (by omega)]; exact hgt3.put (Nat.le_refl _) _, by rw [show (((j + 1 : Nat) : Int) - 1) = (j : Int) by omega]; exact by simp only [Knows, put, upd_apply, Nat.reduceEqDiff, ↓reduceIte, and_true, true_and, eq_self] <;> and_intros <;> rfl⟩
   | exact ⟨j, by omega, j, out ++ [(pByte q2).1], s30, (pByte q2).2, rfl, by rw [← ho, pWordGo, List.append_assoc]; rfl, by simp; omega, by rw [pByte_1 (by omega)]; have hx := at_setAt_same (.row s30 5 1 (((out).map fun n => [.int .u8 n]) ++ [[.int .u8 (97 + num 4 q2.tail)]])) hs5''; rw [List.map_append]; exact hx, by rw [setAt_len]; have := hg3.2.2; omega, by rw [pByte_1 (by omega)]; exact hgt3.put (Nat.le_refl _) _, by rw [show (((j + 1 : Nat) : Int) - 1) = (j : Int) by omega]; exact by simp only [Knows, put, upd_apply, Nat.reduceEqDiff, ↓reduceIte, and_true, true_and, eq_self] <;> and_intros <;> rfl⟩
  ·skip
   have h2' := h2; (try simp only [decide_eq_true_eq, decide_eq_false_iff_not, Bool.not_eq_true', Bool.not_false, Bool.not_true, Bool.not_eq_false'] at h2')
   refine w_region ?_
   refine l_cons rfl (p_move ?_)
   refine l_cons rfl (p_move ?_)
   refine l_cons rfl (p_call en_70 ((num_walk 4 (by omega) hgt2.1).mono ?_))
   rintro _ es4 ⟨rfl, hg3⟩
   have hn3 := num_range (q := q2.tail) (m := 4) (by omega)
   have hgt3 := hgt2.trans hg3
   have hel3 := Nat.lt_of_lt_of_le hel hg2.2.2
   have hs5'' := (hg3.2.1 _ (by omega) hel3).trans hs5'
   refine l_cons rfl (p_arith ?_)
   refine l_cons rfl (p_conv in_3 in_5 ?_ (hb := wrap8 (n := 97 + num 4 q2.tail) (by omega) (by omega)))
   refine l_cons rfl (p_buildList sl_22 ze_5 ?_)
   refine l_cons rfl (p_append sl_22 by_5 ze_5 (fun s30 => ?_) (hb := by simp only [List.length_map, List.length_cons, List.length_nil, Go.Proofs.YtfdgbghlanbddaaDoor.Av.most]; omega))
   refine l_cons rfl (p_assign ?_)
   refine l_nil ?_
   refine k_blk_normal ?_
   refine k_seq_normal ?_
   refine w_region ?_
   refine l_cons rfl (p_move ?_)
   refine l_cons rfl (p_arith ?_)
   refine l_cons rfl (p_assign ?_)
   refine l_nil ?_
   refine k_seq_normal ?_
   obtain ⟨j, rfl⟩ : ∃ j, m = j + 1 := ⟨m - 1, by omega⟩
   first
   | exact ⟨j, by omega, j, out ++ [(pByte q2).1], s23, (pByte q2).2, rfl, by rw [← ho, pWordGo, List.append_assoc]; rfl, by simp; omega, by rw [pByte_0 (by omega)]; have hx := at_setAt_same (.row s23 5 1 (((out).map fun n => [.int .u8 n]) ++ [[.int .u8 (num 256 q2.tail)]])) hs5''; rw [List.map_append]; exact hx, by rw [setAt_len]; have := hg3.2.2; omega, by rw [pByte_0 (by omega)]; exact hgt3.put (Nat.le_refl _) _, by rw [show (((j + 1 : Nat) : Int) - 1) = (j : Int) by omega]; exact by simp only [Knows, put, upd_apply, Nat.reduceEqDiff, ↓reduceIte, and_true, true_and, eq_self] <;> and_intros <;> rfl⟩
   | exact ⟨j, by omega, j, out ++ [(pByte q2).1], s30, (pByte q2).2, rfl, by rw [← ho, pWordGo, List.append_assoc]; rfl, by simp; omega, by rw [pByte_1 (by omega)]; have hx := at_setAt_same (.row s30 5 1 (((out).map fun n => [.int .u8 n]) ++ [[.int .u8 (97 + num 4 q2.tail)]])) hs5''; rw [List.map_append]; exact hx, by rw [setAt_len]; have := hg3.2.2; omega, by rw [pByte_1 (by omega)]; exact hgt3.put (Nat.le_refl _) _, by rw [show (((j + 1 : Nat) : Int) - 1) = (j : Int) by omega]; exact by simp only [Knows, put, upd_apply, Nat.reduceEqDiff, ↓reduceIte, and_true, true_and, eq_self] <;> and_intros <;> rfl⟩
 ·skip
  have h1' := h1; (try simp only [decide_eq_true_eq, decide_eq_false_iff_not, Bool.not_eq_true', Bool.not_false, Bool.not_true, Bool.not_eq_false'] at h1')
  refine w_exit ?_
  refine k_seq_exit ?_
  refine k_seq_exit ?_
  refine k_blk_here ?_
  refine k_seq_normal ?_
  refine w_seq ?_
  refine w_freeze 5 rfl hs5 (cleans_u8 _) ?_
  refine w_region ?_
  refine l_cons rfl (p_move ?_)
  refine l_cons rfl (p_assign ?_)
  refine l_nil ?_
  refine k_seq_normal ?_
  refine w_ret ?_
  obtain rfl : m = 0 := by omega
  rw [← ho, pWordGo, List.append_nil]
  exact ret1 rfl (by simp only [ev_tmp, ev_const, ev_func, ofConst_int, ofConst_bool, ofConst_str, ofConst_nil, upd_apply, Nat.reduceEqDiff, ↓reduceIte] <;> exact rfl) (Sub.refl _) ⟨rfl, q2, hgt.put (Nat.le_refl _) _⟩
end Go.Proofs.YtfdgbghlanbddaaDoor.Av
set_option linter.unusedVariables false
set_option linter.unusedSimpArgs false
namespace Go.Proofs.YtfdgbghlanbddaaDoor.Av
/-! ### the words of an expression -/
inductive Star (P : List Int → Prop) : List Int → Prop
 | nil : Star P []
 | cons {u v : List Int} : P u → Star P v → Star P (u ++ v)
def W4.hasI (s : W4) (b : Int) : Bool := hasW s.w0 s.w1 s.w2 s.w3 b
mutual
def Rx.lang : Rx → List Int → Prop
 | .mk k s l => fun w => (k = 2 ∧ w = []) ∨ (k = 3 ∧ ∃ b, w = [b] ∧ s.hasI b = true) ∨ (k = 4 ∧ Rx.langCat l w) ∨ (k = 5 ∧ Rx.langAlt l w) ∨ (k = 6 ∧ Star (Rx.langOne l) w)
def Rx.langCat : List Rx → List Int → Prop
 | [] => fun w => w = []
 | a :: t => fun w => ∃ u v, w = u ++ v ∧ a.lang u ∧ Rx.langCat t v
def Rx.langAlt : List Rx → List Int → Prop
 | [] => fun _ => False
 | a :: t => fun w => a.lang w ∨ Rx.langAlt t w
def Rx.langOne : List Rx → List Int → Prop
 | [] => fun _ => False
 | a :: t => fun w => t = [] ∧ a.lang w
end
theorem lang_eq (r : Rx) (w : List Int) : r.lang w ↔ (r.kind = 2 ∧ w = []) ∨ (r.kind = 3 ∧ ∃ b, w = [b] ∧ r.set.hasI b = true) ∨ (r.kind = 4 ∧ Rx.langCat r.args w) ∨ (r.kind = 5 ∧ Rx.langAlt r.args w) ∨ (r.kind = 6 ∧ Star (Rx.langOne r.args) w) := by
 cases r
 rw [Rx.lang]
 rfl
theorem langCat_nil (w : List Int) : Rx.langCat [] w ↔ w = [] := by rw [Rx.langCat]
theorem langCat_cons (a : Rx) (t : List Rx) (w : List Int) : Rx.langCat (a :: t) w ↔ ∃ u v, w = u ++ v ∧ a.lang u ∧ Rx.langCat t v := by rw [Rx.langCat]
theorem langAlt_nil (w : List Int) : ¬ Rx.langAlt [] w := by rw [Rx.langAlt]; exact fun h => h
theorem langAlt_cons (a : Rx) (t : List Rx) (w : List Int) : Rx.langAlt (a :: t) w ↔ a.lang w ∨ Rx.langAlt t w := by rw [Rx.langAlt]
theorem langAlt_iff {l : List Rx} {w : List Int} : Rx.langAlt l w ↔ ∃ a ∈ l, a.lang w := by
 induction l with
 | nil => simp [langAlt_nil]
 | cons a t ih => rw [langAlt_cons, ih]; simp
theorem langOne_iff {l : List Rx} {w : List Int} : Rx.langOne l w ↔ ∃ a, l = [a] ∧ a.lang w := by
 match l with
 | [] => rw [Rx.langOne]; simp
 | a :: t =>
  rw [Rx.langOne]
  constructor
  ·rintro ⟨rfl, h⟩; exact ⟨a, rfl, h⟩
  ·rintro ⟨b, h, h2⟩
   simp only [List.cons.injEq] at h
   obtain ⟨rfl, rfl⟩ := h
   exact ⟨rfl, h2⟩
theorem langCat_app {l m : List Rx} {w : List Int} : Rx.langCat (l ++ m) w ↔ ∃ u v, w = u ++ v ∧ Rx.langCat l u ∧ Rx.langCat m v := by
 induction l generalizing w with
 | nil =>
  constructor
  ·intro h; exact ⟨[], w, rfl, (langCat_nil _).2 rfl, h⟩
  ·rintro ⟨u, v, rfl, h, h2⟩
   rw [langCat_nil] at h
   subst h
   exact h2
 | cons a t ih =>
  rw [List.cons_append, langCat_cons]
  constructor
  ·rintro ⟨u, v, rfl, h1, h2⟩
   obtain ⟨x, y, rfl, h3, h4⟩ := ih.1 h2
   exact ⟨u ++ x, y, by rw [List.append_assoc], (langCat_cons _ _ _).2 ⟨u, x, rfl, h1, h3⟩, h4⟩
  ·rintro ⟨u, v, rfl, h1, h2⟩
   obtain ⟨x, y, rfl, h3, h4⟩ := (langCat_cons _ _ _).1 h1
   exact ⟨x, y ++ v, by rw [List.append_assoc], h3, ih.2 ⟨y, v, rfl, h4, h2⟩⟩
theorem langCat_one {a : Rx} {w : List Int} : Rx.langCat [a] w ↔ a.lang w := by
 rw [langCat_cons]
 constructor
 ·rintro ⟨u, v, rfl, h1, h2⟩
  rw [langCat_nil] at h2
  subst h2
  simpa using h1
 ·intro h; exact ⟨w, [], by simp, h, (langCat_nil _).2 rfl⟩
theorem kind_2 {r : Rx} (h : r.kind = 2) : ∀ x, r.lang x ↔ x = [] := fun x => by rw [lang_eq, h]; simp
theorem kind_3 {r : Rx} (h : r.kind = 3) : ∀ x, r.lang x ↔ ∃ c, x = [c] ∧ r.set.hasI c = true := fun x => by rw [lang_eq, h]; simp
theorem kind_4 {r : Rx} (h : r.kind = 4) : ∀ x, r.lang x ↔ Rx.langCat r.args x := fun x => by rw [lang_eq, h]; simp
theorem kind_5 {r : Rx} (h : r.kind = 5) : ∀ x, Rx.langAlt r.args x ↔ r.lang x := fun x => by rw [lang_eq, h]; simp
theorem kind_6 {r : Rx} (h : r.kind = 6) : ∀ x, r.lang x ↔ Star (Rx.langOne r.args) x := fun x => by rw [lang_eq, h]; simp
theorem kind_0 {r : Rx} (h : ¬ r.kind = 2 ∧ ¬ r.kind = 3 ∧ ¬ r.kind = 4 ∧ ¬ r.kind = 5 ∧ ¬ r.kind = 6) : ∀ x, ¬ r.lang x := fun x => by rw [lang_eq]; simp [h]
/-! ### parts of a word -/
/-- From place i on to place j. -/
def sl (w : List Int) (i j : Nat) : List Int := (w.take j).drop i
theorem sl_self (w : List Int) (i : Nat) : sl w i i = [] := by
 unfold sl
 rw [List.drop_eq_nil_of_le (by rw [List.length_take]; omega)]
theorem sl_len {w : List Int} {i j : Nat} (hj : j ≤ w.length) : (sl w i j).length = j - i := by
 unfold sl
 rw [List.length_drop, List.length_take]
 omega
theorem sl_app {w : List Int} {i j k : Nat} (h1 : i ≤ j) (h2 : j ≤ k) (h3 : k ≤ w.length) : sl w i k = sl w i j ++ sl w j k := by
 refine List.ext_getElem? fun n => ?_
 unfold sl
 by_cases h : n < j - i
 ·rw [List.getElem?_append_left (by rw [List.length_drop, List.length_take]; omega), List.getElem?_drop, List.getElem?_drop, List.getElem?_take, List.getElem?_take, if_pos (by omega), if_pos (by omega)]
 ·rw [List.getElem?_append_right (by rw [List.length_drop, List.length_take]; omega), List.getElem?_drop, List.getElem?_drop, List.getElem?_take, List.getElem?_take, List.length_drop, List.length_take]
  rw [show j + (n - (min j w.length - i)) = i + n by omega]
/-- Where a part is two, one behind the other. -/
theorem sl_cut {w : List Int} {i k : Nat} {u v : List Int} (h1 : i ≤ k) (h2 : k ≤ w.length) (h : sl w i k = u ++ v) : i + u.length ≤ k ∧ u = sl w i (i + u.length) ∧ v = sl w (i + u.length) k := by
 have hl : (sl w i k).length = u.length + v.length := by rw [h, List.length_append]
 rw [sl_len h2] at hl
 have h3 := sl_app (w := w) (i := i) (j := i + u.length) (k := k) (by omega) (by omega) h2
 rw [h] at h3
 have hl2 : u.length = (sl w i (i + u.length)).length := by rw [sl_len (by omega)]; omega
 obtain ⟨h4, h5⟩ := List.append_inj h3 hl2
 exact ⟨by omega, h4, h5⟩
theorem sl_one {w : List Int} {i : Nat} (h : i < w.length) : sl w i (i + 1) = [w[i]] := by
 unfold sl
 rw [List.take_add_one, List.getElem?_eq_getElem h, List.drop_append]
 have : (w.take i).length = i := by rw [List.length_take]; omega
 rw [this, Nat.sub_self, List.drop_eq_nil_of_le (by omega)]
 rfl
theorem sl_all (w : List Int) : sl w 0 w.length = w := by unfold sl; rw [List.take_length]; rfl
/-! ### any number of words, place by place -/
inductive SR (P : List Int → Prop) (w : List Int) (i : Nat) : Nat → Prop
 | base : SR P w i i
 | step {j k : Nat} : SR P w i j → j < k → k ≤ w.length → P (sl w j k) → SR P w i k
theorem SR.le {P : List Int → Prop} {w : List Int} {i k : Nat} (h : SR P w i k) : i ≤ k := by
 induction h with
 | base => exact Nat.le_refl _
 | step _ h _ _ ih => omega
theorem star_app {P : List Int → Prop} {u v : List Int} (h : Star P u) (k : Star P v) : Star P (u ++ v) := by
 induction h with
 | nil => exact k
 | cons h1 _ ih => rw [List.append_assoc]; exact .cons h1 ih
theorem star_one {P : List Int → Prop} {u : List Int} (h : P u) : Star P u := by
 have := Star.cons h (Star.nil (P := P))
 rwa [List.append_nil] at this
theorem sr_star {P : List Int → Prop} {w : List Int} {i k : Nat} (h : SR P w i k) (hi : i ≤ w.length) : k ≤ w.length ∧ Star P (sl w i k) := by
 induction h with
 | base => exact ⟨hi, by rw [sl_self]; exact .nil⟩
 | step h1 h2 h3 h4 ih => exact ⟨h3, by rw [sl_app h1.le (by omega) h3]; exact star_app ih.2 (star_one h4)⟩
theorem sr_left {P : List Int → Prop} {w : List Int} {i j k : Nat} (h0 : i < j) (hj : j ≤ w.length) (hp : P (sl w i j)) (h : SR P w j k) : SR P w i k := by
 induction h with
 | base => exact .step .base h0 hj hp
 | step _ h2 h3 h4 ih => exact .step ih h2 h3 h4
theorem star_sr {P : List Int → Prop} {x : List Int} (h : Star P x) : ∀ {w : List Int} {i k : Nat}, i ≤ k → k ≤ w.length → x = sl w i k → SR P w i k := by
 induction h with
 | nil =>
  intro w i k h1 h2 h3
  have := congrArg List.length h3
  rw [sl_len h2] at this
  simp only [List.length_nil] at this
  have : k = i := by omega
  subst this
  exact .base
 | @cons u v hu hv ih =>
  intro w i k h1 h2 h3
  obtain ⟨h4, h5, h6⟩ := sl_cut h1 h2 h3.symm
  by_cases h0 : u.length = 0
  ·have : u = [] := List.eq_nil_of_length_eq_zero h0
   subst this
   exact ih h1 h2 (by simpa using h3)
  ·exact sr_left (by omega) (by omega) (by rw [← h5]; exact hu) (ih h4 h2 h6)
theorem star_iff {P : List Int → Prop} {w : List Int} {i k : Nat} (h1 : i ≤ k) (h2 : k ≤ w.length) : Star P (sl w i k) ↔ SR P w i k :=
 ⟨fun h => star_sr h h1 h2 rfl, fun h => (sr_star h (by omega)).2⟩
/-! ### tables -/
def tabOf (n : Nat) (p : Nat → Nat → Bool) : List (List Bool) := (List.range n).map fun i => (List.range n).map fun j => p i j
open Classical in
noncomputable def langP (L : List Int → Prop) (w : List Int) (i j : Nat) : Bool := decide (i ≤ j ∧ L (sl w i j))
/-- Where words of an expression lie in w. -/
noncomputable def spansT (r : Rx) (w : List Int) : List (List Bool) := tabOf (w.length + 1) (langP r.lang w)
/-- One behind the other. -/
def behindP (p q : Nat → Nat → Bool) (i k : Nat) : Bool := (List.range (k + 1)).any fun j => decide (i ≤ j) && p i j && q j k
end Go.Proofs.YtfdgbghlanbddaaDoor.Av
set_option linter.unusedVariables false
set_option linter.unusedSimpArgs false
namespace Go.Proofs.YtfdgbghlanbddaaDoor.Av
open Go.RowKit
/-! ### tables that are being written -/
def bools (l : List Bool) : List (List AV) := l.map fun b => [.bool b]
def boolRow (n : Nat) (q : Nat → Bool) : List (List AV) := bools ((List.range n).map q)
def tabAV (T : List (List Bool)) : AV := .list 1 (T.map fun r => [.list 1 (bools r)])
def tRows (ms : List (Nat × Nat)) (n : Nat) : List (List AV) := ms.map (fun m => [AV.own m.1 m.2]) ++ List.replicate (n - ms.length) [AV.nil]
structure TP (es : List Ent) (lo it st : Nat) (ms : List (Nat × Nat)) (n : Nat) (p : Nat → Nat → Bool) : Prop where
 t : at_ es it = some (.row st 60 1 (tRows ms n))
 r : ∀ i (h : i < ms.length), at_ es ms[i].1 = some (.row ms[i].2 4 1 (boolRow n (p i)))
 lt : ms.length ≤ n
 nd : (it :: ms.map Prod.fst).Nodup
 lo : ∀ id ∈ it :: ms.map Prod.fst, lo ≤ id
/-- What lies below is al' it was. -/
def KB (base es : List Ent) : Prop := (∀ id, id < base.length → at_ es id = at_ base id) ∧ base.length ≤ es.length
theorem KB.refl (es : List Ent) : KB es es := ⟨fun _ _ => rfl, Nat.le_refl _⟩
theorem KB.trans {a b c : List Ent} (h : KB a b) (k : KB b c) : KB a c := ⟨fun id hi => (k.1 id (Nat.lt_of_lt_of_le hi h.2)).trans (h.1 id hi), Nat.le_trans h.2 k.2⟩
theorem KB.push {base es : List Ent} (x : Ent) (h : KB base es) : KB base (x :: es) := ⟨fun id hi => (at_push x (Nat.lt_of_lt_of_le hi h.2)).trans (h.1 id hi), by have := h.2; simp only [List.length_cons]; omega⟩
theorem KB.put {base es : List Ent} (h : KB base es) {id : Nat} (hid : base.length ≤ id) (y : Ent) : KB base (setAt es id y) := ⟨fun i hi => (at_setAt_ne y (by omega)).trans (h.1 i hi), by rw [setAt_len]; exact h.2⟩
theorem KB.pop {x : Ent} {es es2 : List Ent} (h : KB (x :: es) es2) : KB es es2 :=
 ⟨fun i hi => (h.1 i (by simp only [List.length_cons]; omega)).trans (at_push _ hi), by have := h.2; simp only [List.length_cons] at this; omega⟩
theorem KB.sub {base es : List Ent} (h : KB base es) : Sub base es := sub_of h.1
theorem boolRow_len (n : Nat) (q : Nat → Bool) : (boolRow n q).length = n := by simp [boolRow, bools]
theorem boolRow_at {n j : Nat} (q : Nat → Bool) (h : j < n) : (boolRow n q)[j]? = some [.bool (q j)] := by simp [boolRow, bools, h]
theorem boolRow_set {n j : Nat} (q : Nat → Bool) (v : Bool) (h : j < n) : (boolRow n q).set j [.bool v] = boolRow n (fun x => if x = j then v else q x) := by
 refine List.ext_getElem (by simp [boolRow, bools]) fun i h1 h2 => ?_
 simp only [boolRow, bools, List.getElem_set, List.getElem_map, List.getElem_range]
 by_cases hi : j = i
 ·subst hi; simp
 ·rw [if_neg hi, if_neg (Ne.symm hi)]
theorem boolRow_congr {n : Nat} {p q : Nat → Bool} (h : ∀ i, i < n → p i = q i) : boolRow n p = boolRow n q := by
 unfold boolRow
 congr 1
 exact List.map_congr_left fun i hi => h i (List.mem_range.1 hi)
theorem boolRow_none (n : Nat) : List.replicate n [AV.bool false] = boolRow n (fun _ => false) := by
 refine List.ext_getElem (by simp [boolRow, bools]) fun i h1 h2 => ?_
 simp [boolRow, bools]
theorem TP.push {es : List Ent} {lo it st n : Nat} {ms : List (Nat × Nat)} {p : Nat → Nat → Bool} (x : Ent) (h : TP es lo it st ms n p) : TP (x :: es) lo it st ms n p :=
 ⟨at_miss _ h.t, fun i hi => at_miss _ (h.r i hi), h.lt, h.nd, h.lo⟩
section
variable {P : Program} {w0 : World} {N : Nat} {f : Frame} {base es : List Ent} {K : Exit → Frame → List Ent → Prop}
end
end Go.Proofs.YtfdgbghlanbddaaDoor.Av
set_option linter.unusedVariables false
set_option linter.unusedSimpArgs false
set_option maxRecDepth 8000
namespace Go.Proofs.YtfdgbghlanbddaaDoor.Av
open Go.RowKit Go.Proofs
def jp (p q : Nat → Nat → Bool) (i j a b : Nat) : Bool := if a < i ∨ (a = i ∧ b < j) then p a b || q a b else p a b
/-- What row i has when the ways through places ahead of j are laid, and those through j up to k. -/
def bq (p q : Nat → Nat → Bool) (i j k x : Nat) : Bool := ((List.range j).any fun m => decide (i ≤ m) && decide (m ≤ x) && p i m && q m x) || (p i j && decide (j ≤ x) && decide (x < k) && q j x)
end Go.Proofs.YtfdgbghlanbddaaDoor.Av
set_option linter.unusedVariables false
set_option linter.unusedSimpArgs false
namespace Go.Proofs.YtfdgbghlanbddaaDoor.Av
open Go.RowKit
section
variable {P : Program} {w0 : World} {N : Nat} {f : Frame} {base es : List Ent} {K : Exit → Frame → List Ent → Prop}
end
/-! ### the empty word, one byte -/
def dg (i a b : Nat) : Bool := decide (a = b) && decide (a < i)
theorem sl_nil {w : List Int} {a b : Nat} (h1 : a ≤ b) (h2 : b ≤ w.length) : sl w a b = [] ↔ a = b := by
 constructor
 ·intro h
  have := sl_len (w := w) (i := a) h2
  rw [h] at this
  simp at this
  omega
 ·rintro rfl; exact sl_self w a
def sg (s : W4) (w : List Int) (i a b : Nat) : Bool := decide (b = a + 1) && decide (a < i) && s.hasI (w.getD a 0)
/-! ### alternatives, one behind the other -/
/-! ### any number -/
open Classical in
noncomputable def sjb (P : List Int → Prop) (w : List Int) (i j b : Nat) : Bool := decide (b = i ∨ ∃ m, i ≤ m ∧ m < j ∧ m < b ∧ SR P w i m ∧ P (sl w m b))
noncomputable def sk (P : List Int → Prop) (w : List Int) (i j k b : Nat) : Bool := sjb P w i j b || (decide (j < b) && decide (b < k) && sjb P w i j j && langP P w j b)
/-- The table when rows ahead of i are done, and row i by q. -/
noncomputable def rowI (P : List Int → Prop) (w : List Int) (i : Nat) (q : Nat → Bool) (a b : Nat) : Bool := if a < i then langP (Star P) w a b else if a = i then q b else false
/-- The table of the starred one: empty rows, if there is not just one. -/
noncomputable def rowO (one : Bool) (P : List Int → Prop) (w : List Int) (n j : Nat) : List Bool := if one = true then (List.range n).map (langP P w j) else []
noncomputable def tabO (one : Bool) (P : List Int → Prop) (w : List Int) (n : Nat) : List (List Bool) := (List.range n).map (rowO one P w n)
end Go.Proofs.YtfdgbghlanbddaaDoor.Av
set_option linter.unusedVariables false
set_option linter.unusedSimpArgs false
set_option maxRecDepth 8000
namespace Go.Proofs.YtfdgbghlanbddaaDoor.Av
open Go.RowKit Go.Proofs
theorem one_arg {l : List Rx} (h : l.length = 1) : ∀ x, (l[0]'(by omega)).lang x ↔ Rx.langOne l x := by
 match l, h with
 | [a], _ => intro x; rw [langOne_iff]; simp
open Classical in
noncomputable def inR (r : Rx) (w : List Int) : Bool := decide (r.lang w)
theorem inR_iff {r : Rx} {w : List Int} : inR r w = true ↔ r.lang w := by unfold inR; simp only [decide_eq_true_eq]
end Go.Proofs.YtfdgbghlanbddaaDoor.Av
set_option linter.unusedVariables false
set_option linter.unusedSimpArgs false
namespace Go.Proofs.YtfdgbghlanbddaaDoor.Av
/-! ### what the machine of an expression runs -/
/-- From a state to t, come to for the first time. -/
inductive PathTo (M : List St) (t : Nat) : Nat → List Int → Prop
 | done : PathTo M t t []
 | eps {i j : Nat} {w : List Int} {s : St} : M[i]? = some s → i ≠ t → (j : Int) ∈ s.free → PathTo M t j w → PathTo M t i w
 | byte {i j : Nat} {b : Int} {w : List Int} {s : St} : M[i]? = some s → i ≠ t → s.to = (j : Int) → s.has b = true → PathTo M t j w → PathTo M t i (b :: w)
def edgeIn (s : St) (P : Nat → Prop) : Prop := (∀ x ∈ s.free, ∃ j : Nat, x = (j : Int) ∧ P j) ∧ (s.to = -1 ∨ ∃ j : Nat, s.to = (j : Int) ∧ P j)
theorem edgeIn.mono {s : St} {P Q : Nat → Prop} (h : edgeIn s P) (k : ∀ j, P j → Q j) : edgeIn s Q :=
 ⟨fun x hx => (h.1 x hx).elim fun j hj => ⟨j, hj.1, k j hj.2⟩, h.2.elim .inl fun ⟨j, h1, h2⟩ => .inr ⟨j, h1, k j h2⟩⟩
structure Frag (M : List St) (a b f t : Nat) (L : List Int → Prop) : Prop where
 hf : a ≤ f ∧ f < b
 ht : a ≤ t ∧ t < b
 hb : b ≤ M.length
 cl : ∀ i s, M[i]? = some s → a ≤ i → i < b → i ≠ t → edgeIn s fun j => a ≤ j ∧ j < b
 la : ∀ w, PathTo M t f w ↔ L w
theorem path_agree {M M' : List St} {a b t : Nat} (cl : ∀ i s, M[i]? = some s → a ≤ i → i < b → i ≠ t → edgeIn s fun j => a ≤ j ∧ j < b) (e : ∀ i, a ≤ i → i < b → i ≠ t → M'[i]? = M[i]?) {i : Nat} {w : List Int} (h : PathTo M t i w) (h1 : a ≤ i) (h2 : i < b) : PathTo M' t i w := by
 induction h with
 | done => exact .done
 | @eps i j w s hs ht hm _ ih =>
  obtain ⟨k, e1, e2⟩ := (cl _ s hs h1 h2 ht).1 _ hm
  have : j = k := by omega
  subst this
  exact .eps (by rw [e _ h1 h2 ht]; exact hs) ht hm (ih e2.1 e2.2)
 | @byte i j b w s hs ht hm hh _ ih =>
  rcases (cl _ s hs h1 h2 ht).2 with e1 | ⟨k, e1, e2⟩
  ·rw [hm] at e1; omega
  ·have : j = k := by omega
   subst this
   exact .byte (by rw [e _ h1 h2 ht]; exact hs) ht hm hh (ih e2.1 e2.2)
theorem Frag.agree {M M' : List St} {a b f t : Nat} {L : List Int → Prop} (h : Frag M a b f t L) (hl : b ≤ M'.length) (e : ∀ i, a ≤ i → i < b → i ≠ t → M'[i]? = M[i]?) : Frag M' a b f t L := by
 have cl' : ∀ i s, M'[i]? = some s → a ≤ i → i < b → i ≠ t → edgeIn s fun j => a ≤ j ∧ j < b := fun i s hs h1 h2 h3 => h.cl i s (by rw [← e i h1 h2 h3]; exact hs) h1 h2 h3
 refine ⟨h.hf, h.ht, hl, cl', fun w => ?_⟩
 rw [← h.la]
 exact ⟨fun k => path_agree cl' (fun i h1 h2 h3 => (e i h1 h2 h3).symm) k h.hf.1 h.hf.2, fun k => path_agree h.cl e k h.hf.1 h.hf.2⟩
/-- On from a fragment's end. -/
theorem path_app {M : List St} {m t : Nat} {i : Nat} {u v : List Int} (h : PathTo M m i u) (k : PathTo M t m v) {P : Nat → Prop} (hp : ∀ i, P i → i ≠ m → i ≠ t) (hc : ∀ i s, M[i]? = some s → P i → i ≠ m → edgeIn s P) (hi : P i) : PathTo M t i (u ++ v) := by
 induction h with
 | done => exact k
 | @eps i j w s hs ht hm _ ih =>
  obtain ⟨x, e1, e2⟩ := (hc _ s hs hi ht).1 _ hm
  have : j = x := by omega
  subst this
  exact .eps hs (hp _ hi ht) hm (ih e2)
 | @byte i j b w s hs ht hm hh _ ih =>
  rcases (hc _ s hs hi ht).2 with e1 | ⟨x, e1, e2⟩
  ·rw [hm] at e1; omega
  ·have : j = x := by omega
   subst this
   exact .byte hs (hp _ hi ht) hm hh (ih e2)
/-- Whoever leaves a fragment comes by its end. -/
theorem path_cut {M : List St} {m t : Nat} {i : Nat} {w : List Int} (h : PathTo M t i w) {P : Nat → Prop} (hp : ∀ i, P i → i ≠ t) (hc : ∀ i s, M[i]? = some s → P i → i ≠ m → edgeIn s P) (hi : P i) : ∃ u v, w = u ++ v ∧ PathTo M m i u ∧ PathTo M t m v := by
 induction h with
 | done => exact absurd rfl (hp _ hi)
 | @eps i j w s hs ht hm hk ih =>
  by_cases him : i = m
  ·subst him
   exact ⟨[], w, rfl, .done, .eps hs ht hm hk⟩
  ·obtain ⟨x, e1, e2⟩ := (hc _ s hs hi him).1 _ hm
   have : j = x := by omega
   subst this
   obtain ⟨u, v, h1, h2, h3⟩ := ih e2
   exact ⟨u, v, h1, .eps hs him hm h2, h3⟩
 | @byte i j b w s hs ht hm hh hk ih =>
  by_cases him : i = m
  ·subst him
   exact ⟨[], b :: w, rfl, .done, .byte hs ht hm hh hk⟩
  ·rcases (hc _ s hs hi him).2 with e1 | ⟨x, e1, e2⟩
   ·rw [hm] at e1; omega
   ·have : j = x := by omega
    subst this
    obtain ⟨u, v, h1, h2, h3⟩ := ih e2
    exact ⟨b :: u, v, by rw [h1]; rfl, .byte hs him hm hh h2, h3⟩
/-- From a state that has ways alone. -/
theorem path_free {M : List St} {t i : Nat} {s : St} {w : List Int} (hs : M[i]? = some s) (ht : i ≠ t) (hto : s.to = -1) : PathTo M t i w ↔ ∃ j : Nat, (j : Int) ∈ s.free ∧ PathTo M t j w := by
 constructor
 ·intro h
  cases h with
  | done => exact absurd rfl ht
  | @eps _ j _ s' hs' _ hm hk =>
   rw [hs] at hs'
   injection hs' with hs'
   subst hs'
   exact ⟨j, hm, hk⟩
  | @byte _ j _ _ s' hs' _ hm _ _ =>
   rw [hs] at hs'
   injection hs' with hs'
   subst hs'
   rw [hto] at hm; omega
 ·rintro ⟨j, h1, h2⟩
  exact .eps hs ht h1 h2
theorem path_end {M : List St} {t : Nat} {w : List Int} (h : PathTo M t t w) : w = [] := by
 cases h with
 | done => rfl
 | eps _ hne _ _ => exact absurd rfl hne
 | byte _ hne _ _ _ => exact absurd rfl hne
theorem path_inv {M : List St} {t i : Nat} {s : St} {w : List Int} (h : PathTo M t i w) (ht : i ≠ t) (hs : M[i]? = some s) : (∃ j : Nat, (j : Int) ∈ s.free ∧ PathTo M t j w) ∨ ∃ (j : Nat) (b : Int) (v : List Int), w = b :: v ∧ s.to = (j : Int) ∧ s.has b = true ∧ PathTo M t j v := by
 cases h with
 | done => exact absurd rfl ht
 | @eps _ j _ s' hs' _ hm hk =>
  rw [hs] at hs'
  injection hs' with hs'
  subst hs'
  exact .inl ⟨j, hm, hk⟩
 | @byte _ j b v s' hs' _ hm hh hk =>
  rw [hs] at hs'
  injection hs' with hs'
  subst hs'
  exact .inr ⟨j, b, v, rfl, hm, hh, hk⟩
/-! ### pieces -/
theorem bFree_get {ns : List St} {i j k : Nat} : (bFree ns i j)[k]? = if k = i then (ns[k]?).map (addFree · j) else ns[k]? := by
 by_cases h : i < ns.length
 ·rw [bFree_eq h, List.getElem?_set]
  by_cases hk : k = i
  ·subst hk
   rw [if_pos rfl, if_pos h, if_pos rfl, List.getElem?_eq_getElem h]
   rfl
  ·rw [if_neg (Ne.symm hk), if_neg hk]
 ·have e : bFree ns i j = ns := by
   unfold bFree
   rw [List.getElem?_eq_none (show ns.length ≤ i by omega)]
  rw [e]
  by_cases hk : k = i
  ·subst hk
   rw [if_pos rfl, List.getElem?_eq_none (by omega)]
   rfl
  ·rw [if_neg hk]
structure Part (ns : List St) (p : List St × Nat × Nat) (L : List Int → Prop) : Prop where
 len : ns.length ≤ p.1.length
 old : ∀ i, i < ns.length → p.1[i]? = ns[i]?
 frag : Frag p.1 ns.length p.1.length p.2.1 p.2.2 L
 out : ∃ s, p.1[p.2.2]? = some s ∧ s.free = [] ∧ s.to = -1
 few : ∀ i s, p.1[i]? = some s → ns.length ≤ i → s.free.length ≤ 2
theorem get_lt {M : List St} {i : Nat} {s : St} (h : M[i]? = some s) : i < M.length := (List.getElem?_eq_some_iff.1 h).1
theorem app_old {a b : List St} {i : Nat} (h : i < a.length) : (a ++ b)[i]? = a[i]? := List.getElem?_append_left h
theorem app_0 {a : List St} {x : St} {t : List St} : (a ++ x :: t)[a.length]? = some x := by rw [List.getElem?_append_right (Nat.le_refl _)]; simp
theorem app_1 {a : List St} {x y : St} {t : List St} : (a ++ x :: y :: t)[a.length + 1]? = some y := by rw [List.getElem?_append_right (by omega)]; simp
/-- Three cases of a place in a list that was lengthened by two. -/
theorem app_two {a : List St} {x y s : St} {i : Nat} (h : (a ++ [x, y])[i]? = some s) (hi : a.length ≤ i) : (i = a.length ∧ s = x) ∨ (i = a.length + 1 ∧ s = y) := by
 have hl := get_lt h
 simp at hl
 by_cases h1 : i = a.length
 ·subst h1; rw [app_0] at h; injection h with h; exact .inl ⟨rfl, h.symm⟩
 ·have h2 : i = a.length + 1 := by omega
  subst h2; rw [app_1] at h; injection h with h; exact .inr ⟨rfl, h.symm⟩
theorem part_set (s : W4) (ns : List St) : Part ns (ns ++ [st0, ⟨s.w0, s.w1, s.w2, s.w3, (ns.length : Int), []⟩], ns.length + 1, ns.length) fun w => ∃ b, w = [b] ∧ s.hasI b = true := by
 have h1 : (ns ++ [st0, ⟨s.w0, s.w1, s.w2, s.w3, (ns.length : Int), []⟩])[ns.length + 1]? = some ⟨s.w0, s.w1, s.w2, s.w3, (ns.length : Int), []⟩ := app_1
 refine ⟨by simp, fun i hi => app_old hi, ⟨by simp, by simp, by simp, fun i x hx h2 h3 h4 => ?_, fun w => ?_⟩, ⟨st0, app_0, rfl, rfl⟩, fun i x hx h2 => ?_⟩
 ·rcases app_two hx h2 with ⟨h5, _⟩ | ⟨h5, h6⟩
  ·exact absurd h5 h4
  ·subst h6
   exact ⟨fun y hy => by simp at hy, .inr ⟨ns.length, rfl, by simp⟩⟩
 ·constructor
  ·intro h
   rcases path_inv h (by dsimp only; omega) h1 with ⟨j, hj, _⟩ | ⟨j, b, v, rfl, hj, hb, hk⟩
   ·simp at hj
   ·have : j = ns.length := by simp at hj; omega
    subst this
    have := path_end hk
    subst this
    exact ⟨b, rfl, hb⟩
  ·rintro ⟨b, rfl, hb⟩
   exact .byte h1 (by dsimp only; omega) rfl hb .done
 ·rcases app_two hx h2 with ⟨_, h6⟩ | ⟨_, h6⟩ <;> (subst h6; simp [st0, stF])
theorem part_none (ns : List St) : Part ns (ns ++ [st0, st0], ns.length, ns.length + 1) fun _ => False := by
 have h1 : (ns ++ [st0, st0])[ns.length]? = some st0 := app_0
 refine ⟨by simp, fun i hi => app_old hi, ⟨by simp, by simp, by simp, fun i x hx h2 h3 h4 => ?_, fun w => ?_⟩, ⟨st0, app_1, rfl, rfl⟩, fun i x hx h2 => ?_⟩
 ·rcases app_two hx h2 with ⟨_, h6⟩ | ⟨_, h6⟩ <;> (subst h6; exact ⟨fun y hy => by simp [st0, stF] at hy, .inl rfl⟩)
 ·dsimp only
  rw [path_free h1 (by omega) rfl]
  simp [st0, stF]
 ·rcases app_two hx h2 with ⟨_, h6⟩ | ⟨_, h6⟩ <;> (subst h6; simp [st0, stF])
theorem part_empty (ns : List St) : Part ns (bFree (ns ++ [st0, st0]) ns.length (ns.length + 1), ns.length, ns.length + 1) fun w => w = [] := by
 have hl : (bFree (ns ++ [st0, st0]) ns.length (ns.length + 1)).length = ns.length + 2 := by rw [bFree_len]; simp
 have h0 : (bFree (ns ++ [st0, st0]) ns.length (ns.length + 1))[ns.length]? = some (addFree st0 (ns.length + 1)) := by rw [bFree_get, if_pos rfl, app_0]; rfl
 have h1 : (bFree (ns ++ [st0, st0]) ns.length (ns.length + 1))[ns.length + 1]? = some st0 := by rw [bFree_get, if_neg (by omega), app_1]
 have two : ∀ i x, (bFree (ns ++ [st0, st0]) ns.length (ns.length + 1))[i]? = some x → ns.length ≤ i → (i = ns.length ∧ x = addFree st0 (ns.length + 1)) ∨ (i = ns.length + 1 ∧ x = st0) := by
  intro i x hx hi
  have := get_lt hx
  by_cases h : i = ns.length
  ·subst h; rw [h0] at hx; injection hx with hx; exact .inl ⟨rfl, hx.symm⟩
  ·have h2 : i = ns.length + 1 := by omega
   subst h2; rw [h1] at hx; injection hx with hx; exact .inr ⟨rfl, hx.symm⟩
 refine ⟨by dsimp only; omega, fun i hi => ?_, ⟨by dsimp only; omega, by dsimp only; omega, Nat.le_refl _, fun i x hx h2 h3 h4 => ?_, fun w => ?_⟩, ⟨st0, h1, rfl, rfl⟩, fun i x hx h2 => ?_⟩
 ·dsimp only; rw [bFree_get, if_neg (by omega), app_old hi]
 ·rcases two i x hx h2 with ⟨_, h6⟩ | ⟨h5, h6⟩
  ·subst h6
   refine ⟨fun y hy => ?_, .inl rfl⟩
   simp [addFree, st0, stF] at hy
   exact ⟨ns.length + 1, hy, by omega, by dsimp only; omega⟩
  ·exact absurd h5 h4
 ·dsimp only
  rw [path_free h0 (by omega) rfl]
  constructor
  ·rintro ⟨j, hj, hk⟩
   simp [addFree, st0, stF] at hj
   have : j = ns.length + 1 := by omega
   subst this
   exact path_end hk
  ·rintro rfl
   exact ⟨ns.length + 1, by simp [addFree, st0, stF], .done⟩
 ·rcases two i x hx h2 with ⟨_, h6⟩ | ⟨_, h6⟩ <;> (subst h6; simp [addFree, st0, stF])
theorem Part.congr {ns : List St} {p : List St × Nat × Nat} {L L' : List Int → Prop} (h : Part ns p L) (e : ∀ w, L w ↔ L' w) : Part ns p L' :=
 ⟨h.len, h.old, ⟨h.frag.hf, h.frag.ht, h.frag.hb, h.frag.cl, fun w => (h.frag.la w).trans (e w)⟩, h.out, h.few⟩
end Go.Proofs.YtfdgbghlanbddaaDoor.Av
set_option linter.unusedVariables false
set_option linter.unusedSimpArgs false
namespace Go.Proofs.YtfdgbghlanbddaaDoor.Av
/-! ### any number -/
theorem part_star {a : Rx} {ns : List St} {La : List Int → Prop} (h : Part (ns ++ [st0, st0]) (bPart a (ns ++ [st0, st0])) La) (t : List Rx) : Part ns (bStar (a :: t) ns) (Star La) := by
 rcases hq : bPart a (ns ++ [st0, st0]) with ⟨m, fi, out⟩
 rw [hq] at h
 have hbs : bStar (a :: t) ns = (bFree (bFree (bFree m ns.length fi) out ns.length) ns.length (ns.length + 1), ns.length, ns.length + 1) := by rw [bStar, hq]
 rw [hbs]
 have hml := h.len
 have hfi := h.frag.hf
 have hto := h.frag.ht
 obtain ⟨so, ho1, ho2, ho3⟩ := h.out
 simp only [List.length_append, List.length_cons, List.length_nil] at hml hfi hto
 dsimp only at hml hfi hto ho1
 let M := bFree (bFree (bFree m ns.length fi) out ns.length) ns.length (ns.length + 1)
 have hMl : M.length = m.length := by simp only [M, bFree_len]
 have hMf : M[ns.length]? = some (addFree (addFree st0 fi) (ns.length + 1)) := by
  simp only [M]
  rw [bFree_get, if_pos rfl, bFree_get, if_neg (by omega), bFree_get, if_pos rfl, h.old _ (by simp), app_0]
  rfl
 have hMo : M[out]? = some (addFree so ns.length) := by
  simp only [M]
  rw [bFree_get, if_neg (by omega), bFree_get, if_pos rfl, bFree_get, if_neg (by omega), ho1]
  rfl
 have hMt : M[ns.length + 1]? = some st0 := by
  simp only [M]
  rw [bFree_get, if_neg (by omega), bFree_get, if_neg (by omega), bFree_get, if_neg (by omega), h.old _ (by simp), app_1]
 have hMi : ∀ i, i ≠ ns.length → i ≠ out → M[i]? = m[i]? := by
  intro i h1 h2
  simp only [M]
  rw [bFree_get, if_neg h1, bFree_get, if_neg h2, bFree_get, if_neg h1]
 have hfr : Frag M (ns.length + 2) m.length fi out La := by
  have := h.frag.agree (M' := M) (by dsimp only; omega) (fun i h1 h2 h3 => hMi i (by simp at h1; omega) h3)
  simpa using this
 have hcl : ∀ i s, M[i]? = some s → ns.length + 2 ≤ i → i < m.length → i ≠ out → edgeIn s fun j => ns.length + 2 ≤ j ∧ j < m.length := fun i s hs h1 h2 h3 => hfr.cl i s hs h1 h2 h3
 have hcl2 : ∀ i s, M[i]? = some s → (ns.length + 2 ≤ i ∧ i < m.length) → i ≠ out → edgeIn s fun j => ns.length + 2 ≤ j ∧ j < m.length := fun i s hs h1 h3 => hfr.cl i s hs h1.1 h1.2 h3
 show Part ns (M, ns.length, ns.length + 1) _
 refine ⟨by dsimp only; omega, fun i hi => ?_, ⟨by dsimp only; omega, by dsimp only; omega, Nat.le_refl _, fun i s hs h1 h2 h3 => ?_, fun w => ?_⟩, ⟨st0, hMt, rfl, rfl⟩, fun i s hs h1 => ?_⟩
 ·show M[i]? = _
  rw [hMi i (by omega) (by omega), h.old i (by simp; omega), app_old hi]
 ·dsimp only at h2 h3 ⊢
  rw [hMl] at h2 ⊢
  by_cases h4 : i = ns.length
  ·subst h4
   have e : M[ns.length]? = some s := hs
   rw [hMf] at e
   injection e with e
   subst e
   refine ⟨fun x hx => ?_, .inl rfl⟩
   simp [addFree, st0, stF] at hx
   rcases hx with rfl | rfl
   ·exact ⟨fi, rfl, by omega⟩
   ·exact ⟨ns.length + 1, rfl, by omega⟩
  ·by_cases h5 : i = out
   ·subst h5
    have e : M[i]? = some s := hs
    rw [hMo] at e
    injection e with e
    subst e
    refine ⟨fun x hx => ?_, .inl ho3⟩
    simp [addFree, ho2] at hx
    exact ⟨ns.length, hx, by omega⟩
   ·exact (hcl i s hs (by omega) h2 h5).mono fun j hj => by omega
 ·show PathTo M (ns.length + 1) ns.length w ↔ _
  constructor
  ·intro hp
   have key : ∀ i w, PathTo M (ns.length + 1) i w → (i = ns.length → Star La w) ∧ ((ns.length + 2 ≤ i ∧ i < m.length) → ∃ u v, w = u ++ v ∧ PathTo M out i u ∧ Star La v) := by
    intro i w hp
    induction hp with
    | done => exact ⟨fun e => by omega, fun e => by omega⟩
    | @eps i j w s hs ht hm hk ih =>
     refine ⟨fun e => ?_, fun e => ?_⟩
     ·subst e
      rw [hMf] at hs
      injection hs with hs
      subst hs
      simp [addFree, st0, stF] at hm
      rcases hm with hm | hm
      ·have : j = fi := by omega
       subst this
       obtain ⟨u, v, rfl, h2, h3⟩ := ih.2 (by omega)
       exact .cons ((hfr.la u).1 h2) h3
      ·have : j = ns.length + 1 := by omega
       subst this
       rw [path_end hk]
       exact .nil
     ·by_cases h5 : i = out
      ·subst h5
       rw [hMo] at hs
       injection hs with hs
       subst hs
       simp [addFree, ho2] at hm
       exact ⟨[], w, rfl, .done, ih.1 (by omega)⟩
      ·obtain ⟨x, e1, e2⟩ := (hcl2 i s hs e h5).1 _ hm
       have : j = x := by omega
       subst this
       obtain ⟨u, v, h1, h2, h3⟩ := ih.2 e2
       exact ⟨u, v, h1, .eps hs h5 hm h2, h3⟩
    | @byte i j b w s hs ht hm hh hk ih =>
     refine ⟨fun e => ?_, fun e => ?_⟩
     ·subst e
      rw [hMf] at hs
      injection hs with hs
      subst hs
      simp only [addFree, st0, stF] at hm
      omega
     ·by_cases h5 : i = out
      ·subst h5
       rw [hMo] at hs
       injection hs with hs
       subst hs
       simp only [addFree, ho3] at hm
       omega
      ·rcases (hcl2 i s hs e h5).2 with e1 | ⟨x, e1, e2⟩
       ·rw [hm] at e1; omega
       ·have : j = x := by omega
        subst this
        obtain ⟨u, v, h1, h2, h3⟩ := ih.2 e2
        exact ⟨b :: u, v, by rw [h1]; rfl, .byte hs h5 hm hh h2, h3⟩
   exact (key _ _ hp).1 rfl
  ·intro hs
   induction hs with
   | nil => exact .eps hMf (by omega) (by simp [addFree, st0, stF]) .done
   | @cons u v hu hv ih =>
    refine .eps (j := fi) hMf (by omega) (by simp [addFree, st0, stF]) ?_
    refine path_app ((hfr.la u).2 hu) (.eps (j := ns.length) hMo (by omega) (by simp [addFree, ho2]) ih) (P := fun j => ns.length + 2 ≤ j ∧ j < m.length) (fun i h1 _ => by omega) (fun i s hs h1 h2 => hcl2 i s hs h1 h2) (by omega)
 ·have e : M[i]? = some s := hs
  by_cases h4 : i = ns.length
  ·subst h4
   rw [hMf] at e
   injection e with e
   subst e
   simp [addFree, st0, stF]
  ·by_cases h5 : i = out
   ·subst h5
    rw [hMo] at e
    injection e with e
    subst e
    simp [addFree, ho2]
   ·by_cases h6 : i = ns.length + 1
    ·subst h6
     rw [hMt] at e
     injection e with e
     subst e
     simp [st0, stF]
    ·rw [hMi i h4 h5] at e
     exact h.few i s e (by simp; omega)
/-! ### one behind the other -/
structure CQ (a : Nat) (n : List St) (f t : Nat) (L : List Int → Prop) : Prop where
 frag : Frag n a n.length f t L
 out : ∃ s, n[t]? = some s ∧ s.free = [] ∧ s.to = -1
 few : ∀ i s, n[i]? = some s → a ≤ i → s.free.length ≤ 2
theorem cat_one {a : Nat} {n : List St} {f t : Nat} {L Lx : List Int → Prop} {x : Rx} (h : CQ a n f t L) (k : Part n (bPart x n) Lx) :
  CQ a (bFree (bPart x n).1 t (bPart x n).2.1) f (bPart x n).2.2 (fun w => ∃ u v, w = u ++ v ∧ L u ∧ Lx v) ∧ (∀ i, i < a → (bFree (bPart x n).1 t (bPart x n).2.1)[i]? = n[i]?) ∧ n.length ≤ (bFree (bPart x n).1 t (bPart x n).2.1).length := by
 rcases hq : bPart x n with ⟨m, fi, out⟩
 rw [hq] at k
 have hml := k.len
 have hfi := k.frag.hf
 have hto := k.frag.ht
 obtain ⟨so, ho1, ho2, ho3⟩ := k.out
 obtain ⟨s0, hs1, hs2, hs3⟩ := h.out
 have hft := h.frag.ht
 have hff := h.frag.hf
 dsimp only at hml hfi hto ho1 ⊢
 let M := bFree m t fi
 have hMl : M.length = m.length := by simp only [M, bFree_len]
 have hMt : M[t]? = some (addFree s0 fi) := by
  simp only [M]
  rw [bFree_get, if_pos rfl, k.old t (by omega), hs1]
  rfl
 have hMi : ∀ i, i ≠ t → M[i]? = m[i]? := fun i h1 => by simp only [M]; rw [bFree_get, if_neg h1]
 have f1 : Frag M a n.length f t L := h.frag.agree (by omega) (fun i h1 h2 h3 => by rw [hMi i h3, k.old i h2])
 have f2 : Frag M n.length m.length fi out Lx := k.frag.agree (by dsimp only; omega) (fun i h1 h2 h3 => hMi i (by omega))
 refine ⟨⟨⟨by rw [bFree_len]; omega, by rw [bFree_len]; omega, Nat.le_refl _, fun i s hs h1 h2 h3 => ?_, fun w => ?_⟩, ⟨so, ?_, ho2, ho3⟩, fun i s hs h1 => ?_⟩, fun i hi => ?_, by rw [bFree_len]; exact hml⟩
 ·rw [bFree_len] at h2 ⊢
  by_cases h4 : i = t
  ·subst h4
   have e : M[i]? = some s := hs
   rw [hMt] at e
   injection e with e
   subst e
   refine ⟨fun y hy => ?_, .inl hs3⟩
   simp [addFree, hs2] at hy
   exact ⟨fi, hy, by omega⟩
  ·by_cases h5 : i < n.length
   ·exact (f1.cl i s hs h1 h5 h4).mono fun j hj => by omega
   ·exact (f2.cl i s hs (by omega) h2 h3).mono fun j hj => by omega
 ·show PathTo M out f w ↔ _
  constructor
  ·intro hp
   obtain ⟨u, v, e, h2, h3⟩ := path_cut (m := t) hp (P := fun j => a ≤ j ∧ j < n.length) (fun i h1 => by omega) (fun i s hs h1 h2 => f1.cl i s hs h1.1 h1.2 h2) hff
   obtain ⟨j, hj, hk⟩ := (path_free hMt (by omega) hs3).1 h3
   simp [addFree, hs2] at hj
   have : j = fi := by omega
   subst this
   exact ⟨u, v, e, (f1.la u).1 h2, (f2.la v).1 hk⟩
  ·rintro ⟨u, v, rfl, h1, h2⟩
   refine path_app ((f1.la u).2 h1) ((path_free hMt (by omega) hs3).2 ⟨fi, by simp [addFree, hs2], (f2.la v).2 h2⟩) (P := fun j => a ≤ j ∧ j < n.length) (fun i h1 _ => by omega) (fun i s hs h1 h2 => f1.cl i s hs h1.1 h1.2 h2) hff
 ·show M[out]? = some so
  rw [hMi out (by omega)]; exact ho1
 ·have e : M[i]? = some s := hs
  by_cases h4 : i = t
  ·subst h4
   rw [hMt] at e
   injection e with e
   subst e
   simp [addFree, hs2]
  ·rw [hMi i h4] at e
   by_cases h5 : i < n.length
   ·rw [k.old i h5] at e
    exact h.few i s e h1
   ·exact k.few i s e (by omega)
 ·show M[i]? = _
  rw [hMi i (by omega), k.old i (by omega)]
/-! ### one of some -/
/-- A head of the row of states, in a machine that has more behind it. -/
theorem alt_head {T : Nat} {n M : List St} {x : Rx} {r : List Rx} {Lx : List Int → Prop} {X : List Int} {sh : St} (hT : T < n.length) (k : Part n (bPart x n) Lx) (hl : (bPart x n).1.length < M.length)
  (hag : ∀ i, n.length ≤ i → i < (bPart x n).1.length → M[i]? = (bFree (bPart x n).1 (bPart x n).2.2 T)[i]?) (hs : M[(bPart x n).1.length]? = some sh) (hs1 : sh.to = -1) (hs2 : sh.free = ((bPart x n).2.1 : Int) :: X)
  (hX : ∀ w, (∃ j : Nat, (j : Int) ∈ X ∧ PathTo M T j w) ↔ Rx.langAlt r w) (hx : ∀ w, Lx w ↔ x.lang w) :
  (∀ w, PathTo M T (bPart x n).1.length w ↔ Rx.langAlt (x :: r) w) ∧ (∀ i s, M[i]? = some s → n.length ≤ i → i < (bPart x n).1.length → edgeIn s (fun j => j = T ∨ (n.length ≤ j ∧ j < (bPart x n).1.length)) ∧ s.free.length ≤ 2) := by
 rcases hq : bPart x n with ⟨m, fi, out⟩
 rw [hq] at k hl hag hs hs2
 have hml := k.len
 have hfi := k.frag.hf
 have hto := k.frag.ht
 obtain ⟨so, ho1, ho2, ho3⟩ := k.out
 dsimp only at *
 have hMo : M[out]? = some (addFree so T) := by
  rw [hag out hto.1 hto.2, bFree_get, if_pos rfl, ho1]
  rfl
 have hMi : ∀ i, n.length ≤ i → i < m.length → i ≠ out → M[i]? = m[i]? := fun i h1 h2 h3 => by rw [hag i h1 h2, bFree_get, if_neg h3]
 have f2 : Frag M n.length m.length fi out Lx := k.frag.agree (by dsimp only; omega) (fun i h1 h2 h3 => hMi i h1 h2 h3)
 have hin : ∀ w, PathTo M T fi w ↔ x.lang w := by
  intro w
  rw [← hx, ← f2.la]
  constructor
  ·intro hp
   obtain ⟨u, v, e, h2, h3⟩ := path_cut (m := out) hp (P := fun j => n.length ≤ j ∧ j < m.length) (fun i h1 => by omega) (fun i s hs h1 h2 => f2.cl i s hs h1.1 h1.2 h2) hfi
   obtain ⟨j, hj, hk⟩ := (path_free hMo (by omega) ho3).1 h3
   simp [addFree, ho2] at hj
   have : j = T := by omega
   subst this
   rw [path_end hk, List.append_nil] at e
   rw [e]; exact h2
  ·intro hp
   have := path_app hp ((path_free hMo (by omega) ho3).2 ⟨T, by simp [addFree, ho2], .done⟩) (P := fun j => n.length ≤ j ∧ j < m.length) (t := T) (fun i h1 _ => by omega) (fun i s hs h1 h2 => f2.cl i s hs h1.1 h1.2 h2) hfi
   rwa [List.append_nil] at this
 refine ⟨fun w => ?_, fun i s hsi h1 h2 => ?_⟩
 ·rw [path_free hs (by omega) hs1, hs2, langAlt_cons, ← hin, ← hX]
  constructor
  ·rintro ⟨j, hj, hk⟩
   rcases List.mem_cons.1 hj with e | hj
   ·have : j = fi := by omega
    subst this
    exact .inl hk
   ·exact .inr ⟨j, hj, hk⟩
  ·rintro (hk | ⟨j, hj, hk⟩)
   ·exact ⟨fi, by simp, hk⟩
   ·exact ⟨j, List.mem_cons.2 (.inr hj), hk⟩
 ·by_cases h3 : i = out
  ·subst h3
   rw [hMo] at hsi
   injection hsi with hsi
   subst hsi
   refine ⟨⟨fun y hy => ?_, .inl ho3⟩, by simp [addFree, ho2]⟩
   simp [addFree, ho2] at hy
   exact ⟨T, hy, .inl rfl⟩
  ·refine ⟨(f2.cl i s hsi h1 h2 h3).mono fun j hj => .inr hj, ?_⟩
   rw [hMi i h1 h2 h3] at hsi
   exact k.few i s hsi h1
structure AR (T : Nat) (n : List St) (f l : Nat) (s0 : St) (r : List Rx) (p : List St × Nat × Nat) : Prop where
 f : p.2.1 = f
 t : p.2.2 = T
 len : n.length ≤ p.1.length
 old : ∀ i, i < n.length → i ≠ l → p.1[i]? = n[i]?
 last : ∃ X s1, p.1[l]? = some s1 ∧ s1.to = -1 ∧ s1.free = s0.free ++ X ∧ X.length ≤ 1 ∧ (∀ x ∈ X, ∃ j : Nat, x = (j : Int) ∧ n.length ≤ j ∧ j < p.1.length) ∧ ∀ w, (∃ j : Nat, (j : Int) ∈ X ∧ PathTo p.1 T j w) ↔ Rx.langAlt r w
 new : ∀ i s, p.1[i]? = some s → n.length ≤ i → edgeIn s (fun j => j = T ∨ (n.length ≤ j ∧ j < p.1.length)) ∧ s.free.length ≤ 2
theorem alt_nil {T f l : Nat} {n : List St} {s0 : St} (h : n[l]? = some s0) (h0 : s0.to = -1) : AR T n f l s0 [] (bAltGo [] n (some (f, l)) T) := by
 rw [bAltGo]
 refine ⟨rfl, rfl, Nat.le_refl _, fun i _ _ => rfl, ⟨[], s0, h, h0, by simp, by simp, by simp, fun w => ?_⟩, fun i s hs hi => ?_⟩
 ·constructor
  ·rintro ⟨j, hj, _⟩; simp at hj
  ·exact fun e => absurd e (langAlt_nil w)
 ·have := get_lt hs; dsimp only at this; omega
theorem alt_cons {T f l : Nat} {n : List St} {s0 : St} {x : Rx} {r : List Rx} (hT : T < n.length) (hl : l < n.length) (h : n[l]? = some s0) (h0 : s0.to = -1) (k : Part n (bPart x n) x.lang)
  (ih : ∀ n' s0', T < n'.length → (bPart x n).1.length < n'.length → n'[(bPart x n).1.length]? = some s0' → s0'.to = -1 → AR T n' f (bPart x n).1.length s0' r (bAltGo r n' (some (f, (bPart x n).1.length)) T)) : AR T n f l s0 (x :: r) (bAltGo (x :: r) n (some (f, l)) T) := by
 rw [bAltGo]
 rcases hq : bPart x n with ⟨m, fi, out⟩
 rw [hq] at ih
 have k' := k
 rw [hq] at k'
 have hml := k'.len
 have hfi := k'.frag.hf
 have hto := k'.frag.ht
 dsimp only at hml hfi hto ih ⊢
 let n3 := bFree (bFree m out T ++ [stF [(fi : Int)]]) l m.length
 have hn3 : n3.length = m.length + 1 := by simp [n3, bFree_len]
 have hlm : (bFree m out T).length = m.length := bFree_len _ _ _
 have h3s : n3[m.length]? = some (stF [(fi : Int)]) := by
  simp only [n3]
  rw [bFree_get, if_neg (by omega), ← hlm, app_0]
 have h3l : n3[l]? = some (addFree s0 m.length) := by
  simp only [n3]
  rw [bFree_get, if_pos rfl, app_old (by omega), bFree_get, if_neg (by omega), k'.old l hl, h]
  rfl
 have h3i : ∀ i, i < m.length → i ≠ l → n3[i]? = (bFree m out T)[i]? := fun i h1 h2 => by
  simp only [n3]
  rw [bFree_get, if_neg h2, app_old (by omega)]
 have A := ih n3 (stF [(fi : Int)]) (by omega) (by omega) h3s rfl
 obtain ⟨X, s1, a1, a2, a3, a4, a5, a6⟩ := A.last
 have hMlen := A.len
 rw [hn3] at hMlen
 have H := alt_head (T := T) (n := n) (M := (bAltGo r n3 (some (f, m.length)) T).1) (x := x) (r := r) (X := X) (sh := s1) hT k (by rw [hq]; dsimp only; omega)
  (fun i h1 h2 => by rw [hq] at h2 ⊢; dsimp only at h2 ⊢; rw [A.old i (by omega) (by omega), h3i i h2 (by omega)]) (by rw [hq]; exact a1) a2 (by rw [hq, a3]; rfl) a6 (fun w => Iff.rfl)
 rw [hq] at H
 dsimp only at H
 show AR T n f l s0 (x :: r) (bAltGo r n3 (some (f, m.length)) T)
 refine ⟨A.f, A.t, by omega, fun i h1 h2 => ?_, ⟨[(m.length : Int)], addFree s0 m.length, ?_, h0, rfl, by simp, fun y hy => ?_, fun w => ?_⟩, fun i s hs h1 => ?_⟩
 ·rw [A.old i (by omega) (by omega), h3i i (by omega) h2, bFree_get, if_neg (by omega), k'.old i h1]
 ·rw [A.old l (by omega) (by omega)]; exact h3l
 ·simp at hy; exact ⟨m.length, hy, by omega, by omega⟩
 ·rw [← H.1 w]
  constructor
  ·rintro ⟨j, hj, hk⟩
   simp at hj
   have : j = m.length := by omega
   subst this
   exact hk
  ·intro hk; exact ⟨m.length, by simp, hk⟩
 ·rcases Nat.lt_trichotomy i m.length with h2 | h2 | h2
  ·obtain ⟨b1, b2⟩ := H.2 i s hs h1 h2
   exact ⟨b1.mono fun j hj => by omega, b2⟩
  ·subst h2
   rw [a1] at hs
   injection hs with hs
   subst hs
   refine ⟨⟨fun y hy => ?_, .inl a2⟩, by rw [a3]; simp [stF]; omega⟩
   rw [a3] at hy
   rcases List.mem_append.1 hy with hy | hy
   ·simp [stF] at hy
    exact ⟨fi, hy, .inr (by omega)⟩
   ·obtain ⟨j, e1, e2, e3⟩ := a5 y hy
    exact ⟨j, e1, .inr (by omega)⟩
  ·obtain ⟨b1, b2⟩ := A.new i s hs (by omega)
   exact ⟨b1.mono fun j hj => by omega, b2⟩
theorem alt_first {x : Rx} {r : List Rx} {ns : List St} (k : Part (ns ++ [st0]) (bPart x (ns ++ [st0])) x.lang)
  (ih : ∀ n' f l s0', ns.length < n'.length → l < n'.length → n'[l]? = some s0' → s0'.to = -1 → AR ns.length n' f l s0' r (bAltGo r n' (some (f, l)) ns.length)) : Part ns (bAltGo (x :: r) (ns ++ [st0]) none ns.length) (Rx.langAlt (x :: r)) := by
 rw [bAltGo]
 rcases hq : bPart x (ns ++ [st0]) with ⟨m, fi, out⟩
 have k' := k
 rw [hq] at k'
 have hml := k'.len
 have hfi := k'.frag.hf
 have hto := k'.frag.ht
 simp only [List.length_append, List.length_cons, List.length_nil] at hml hfi hto
 dsimp only
 let n3 := bFree m out ns.length ++ [stF [(fi : Int)]]
 have hn3 : n3.length = m.length + 1 := by simp [n3, bFree_len]
 have hlm : (bFree m out ns.length).length = m.length := bFree_len _ _ _
 have h3s : n3[m.length]? = some (stF [(fi : Int)]) := by
  simp only [n3]
  rw [← hlm, app_0]
 have h3i : ∀ i, i < m.length → n3[i]? = (bFree m out ns.length)[i]? := fun i h1 => by
  simp only [n3]
  rw [app_old (by omega)]
 have A := ih n3 m.length m.length (stF [(fi : Int)]) (by omega) (by omega) h3s rfl
 obtain ⟨X, s1, a1, a2, a3, a4, a5, a6⟩ := A.last
 have hMlen := A.len
 rw [hn3] at hMlen
 have H := alt_head (T := ns.length) (n := ns ++ [st0]) (M := (bAltGo r n3 (some (m.length, m.length)) ns.length).1) (x := x) (r := r) (X := X) (sh := s1) (by simp) k (by rw [hq]; dsimp only; omega)
  (fun i h1 h2 => by rw [hq] at h2 ⊢; dsimp only at h2 ⊢; rw [A.old i (by omega) (by omega), h3i i h2]) (by rw [hq]; exact a1) a2 (by rw [hq, a3]; rfl) a6 (fun w => Iff.rfl)
 rw [hq] at H
 simp only [List.length_append, List.length_cons, List.length_nil] at H
 have hMT : (bAltGo r n3 (some (m.length, m.length)) ns.length).1[ns.length]? = some st0 := by
  rw [A.old ns.length (by omega) (by omega), h3i _ (by omega), bFree_get, if_neg (by omega), k'.old _ (by simp), app_0]
 have new : ∀ i s, (bAltGo r n3 (some (m.length, m.length)) ns.length).1[i]? = some s → ns.length ≤ i → edgeIn s (fun j => ns.length ≤ j ∧ j < (bAltGo r n3 (some (m.length, m.length)) ns.length).1.length) ∧ s.free.length ≤ 2 := by
  intro i s hs h1
  by_cases h0 : i = ns.length
  ·subst h0
   rw [hMT] at hs
   injection hs with hs
   subst hs
   exact ⟨⟨fun y hy => by simp [st0, stF] at hy, .inl rfl⟩, by simp [st0, stF]⟩
  rcases Nat.lt_trichotomy i m.length with h2 | h2 | h2
  ·obtain ⟨b1, b2⟩ := H.2 i s hs (by omega) h2
   exact ⟨b1.mono fun j hj => by omega, b2⟩
  ·subst h2
   rw [a1] at hs
   injection hs with hs
   subst hs
   refine ⟨⟨fun y hy => ?_, .inl a2⟩, by rw [a3]; simp [stF]; omega⟩
   rw [a3] at hy
   rcases List.mem_append.1 hy with hy | hy
   ·simp [stF] at hy
    exact ⟨fi, hy, by omega⟩
   ·obtain ⟨j, e1, e2, e3⟩ := a5 y hy
    exact ⟨j, e1, by omega⟩
  ·obtain ⟨b1, b2⟩ := A.new i s hs (by omega)
   exact ⟨b1.mono fun j hj => by omega, b2⟩
 have e1 : bAltGo r n3 (some (m.length, m.length)) ns.length = ((bAltGo r n3 (some (m.length, m.length)) ns.length).1, m.length, ns.length) := by
  rw [← A.f, ← A.t]
  have := A.f
  have := A.t
  ext1
  ·simp_all
  ·ext1 <;> simp_all
 show Part ns (bAltGo r n3 (some (m.length, m.length)) ns.length) _
 rw [e1]
 refine ⟨by dsimp only; omega, fun i hi => ?_, ⟨by dsimp only; omega, by dsimp only; omega, Nat.le_refl _, fun i s hs h1 h2 h3 => (new i s hs h1).1, fun w => H.1 w⟩, ⟨st0, hMT, rfl, rfl⟩, fun i s hs h1 => (new i s hs h1).2⟩
 dsimp only
 rw [A.old i (by omega) (by omega), h3i i (by omega), bFree_get, if_neg (by omega), k'.old i (by simp; omega), app_old hi]
end Go.Proofs.YtfdgbghlanbddaaDoor.Av
set_option linter.unusedVariables false
set_option linter.unusedSimpArgs false
namespace Go.Proofs.YtfdgbghlanbddaaDoor.Av
theorem Part.cq {n : List St} {p : List St × Nat × Nat} {L : List Int → Prop} (h : Part n p L) : CQ n.length p.1 p.2.1 p.2.2 L := ⟨h.frag, h.out, h.few⟩
theorem right_star {k : Int} {s : W4} {l : List Rx} (h : right k s l = true) (hk : k = 6) : l.length = 1 := by
 subst hk
 simp [right] at h
 exact h.1.2
theorem right_ne {k : Int} {s : W4} {l : List Rx} (h : right k s l = true) (hk : k = 4 ∨ k = 5) : l ≠ [] := by
 rintro rfl
 rcases hk with rfl | rfl <;> simp [right] at h
mutual
theorem part_all : ∀ (r : Rx) (ns : List St), r.plain = true → Part ns (bPart r ns) r.lang
 | .mk k s l, ns, h => by
  simp only [Rx.plain, Bool.and_eq_true] at h
  have hk := right_kinds h.1
  rw [bPart]
  by_cases h3 : k = 3
  ·rw [if_pos h3]
   exact (part_set s ns).congr fun w => by rw [kind_3 (r := .mk k s l) h3]; rfl
  ·rw [if_neg h3]
   by_cases h4 : k = 4
   ·rw [if_pos h4]
    exact (cat_list l ns h.2 (right_ne h.1 (.inl h4))).congr fun w => by rw [kind_4 (r := .mk k s l) h4]; rfl
   ·rw [if_neg h4]
    by_cases h5 : k = 5
    ·rw [if_pos h5]
     exact (alt_list l ns h.2 (right_ne h.1 (.inr h5))).congr fun w => by rw [← kind_5 (r := .mk k s l) h5]; rfl
    ·rw [if_neg h5]
     by_cases h6 : k = 6
     ·rw [if_pos h6]
      exact (star_list l ns h.2 (right_star h.1 h6)).congr fun w => by rw [kind_6 (r := .mk k s l) h6]; rfl
     ·rw [if_neg h6]
      by_cases h2 : k = 2
      ·rw [if_pos h2]
       exact (part_empty ns).congr fun w => by rw [kind_2 (r := .mk k s l) h2]
      ·rw [if_neg h2]
       exact (part_none ns).congr fun w => ⟨fun e => e.elim, fun e => kind_0 (r := .mk k s l) ⟨h2, h3, h4, h5, h6⟩ w e⟩
theorem star_list : ∀ (l : List Rx) (ns : List St), Rx.plainL l = true → l.length = 1 → Part ns (bStar l ns) (Star (Rx.langOne l))
 | [], _, _, h => by simp at h
 | a :: t, ns, h, hl => by
  simp only [Rx.plainL, Bool.and_eq_true] at h
  have ht : t = [] := by simpa using hl
  subst ht
  refine part_star (Part.congr (part_all a (ns ++ [st0, st0]) h.1) fun w => ?_) []
  rw [langOne_iff]
  simp
theorem cat_list : ∀ (l : List Rx) (ns : List St), Rx.plainL l = true → l ≠ [] → Part ns (bCat l ns) (Rx.langCat l)
 | [], _, _, h => absurd rfl h
 | a :: t, ns, h, _ => by
  simp only [Rx.plainL, Bool.and_eq_true] at h
  have P := part_all a ns h.1
  rw [bCat]
  obtain ⟨c1, c2, c3⟩ := cat_all t (bPart a ns).1 ns.length (bPart a ns).2.1 (bPart a ns).2.2 a.lang h.2 P.cq
  refine ⟨Nat.le_trans P.len c3, fun i hi => (c2 i hi).trans (P.old i hi), ⟨c1.frag.hf, c1.frag.ht, c1.frag.hb, c1.frag.cl, fun w => (c1.frag.la w).trans (langCat_cons a t w).symm⟩, c1.out, c1.few⟩
theorem cat_all : ∀ (l : List Rx) (n : List St) (a f t : Nat) (L : List Int → Prop), Rx.plainL l = true → CQ a n f t L →
  CQ a (bCatGo l n f t).1 (bCatGo l n f t).2.1 (bCatGo l n f t).2.2 (fun w => ∃ u v, w = u ++ v ∧ L u ∧ Rx.langCat l v) ∧ (∀ i, i < a → (bCatGo l n f t).1[i]? = n[i]?) ∧ n.length ≤ (bCatGo l n f t).1.length
 | [], n, a, f, t, L, _, h => by
  rw [bCatGo]
  refine ⟨⟨⟨h.frag.hf, h.frag.ht, h.frag.hb, h.frag.cl, fun w => (h.frag.la w).trans ?_⟩, h.out, h.few⟩, fun _ _ => rfl, Nat.le_refl _⟩
  constructor
  ·intro hw; exact ⟨w, [], by simp, hw, (langCat_nil _).2 rfl⟩
  ·rintro ⟨u, v, rfl, h1, h2⟩
   rw [langCat_nil] at h2
   subst h2
   simpa using h1
 | x :: r, n, a, f, t, L, hp, h => by
  simp only [Rx.plainL, Bool.and_eq_true] at hp
  obtain ⟨d1, d2, d3⟩ := cat_one h (part_all x n hp.1)
  obtain ⟨c1, c2, c3⟩ := cat_all r (bFree (bPart x n).1 t (bPart x n).2.1) a f (bPart x n).2.2 _ hp.2 d1
  rw [bCatGo]
  refine ⟨⟨⟨c1.frag.hf, c1.frag.ht, c1.frag.hb, c1.frag.cl, fun w => (c1.frag.la w).trans ?_⟩, c1.out, c1.few⟩, fun i hi => (c2 i hi).trans (d2 i hi), Nat.le_trans d3 c3⟩
  constructor
  ·rintro ⟨_, v, rfl, ⟨u1, u2, rfl, h1, h2⟩, h3⟩
   exact ⟨u1, u2 ++ v, by rw [List.append_assoc], h1, (langCat_cons _ _ _).2 ⟨u2, v, rfl, h2, h3⟩⟩
  ·rintro ⟨u, v, rfl, h1, h2⟩
   obtain ⟨v1, v2, rfl, h3, h4⟩ := (langCat_cons _ _ _).1 h2
   exact ⟨u ++ v1, v2, by rw [List.append_assoc], ⟨u, v1, rfl, h1, h3⟩, h4⟩
theorem alt_list : ∀ (l : List Rx) (ns : List St), Rx.plainL l = true → l ≠ [] → Part ns (bAltGo l (ns ++ [st0]) none ns.length) (Rx.langAlt l)
 | [], _, _, h => absurd rfl h
 | x :: r, ns, h, _ => by
  simp only [Rx.plainL, Bool.and_eq_true] at h
  exact alt_first (part_all x (ns ++ [st0]) h.1) fun n' f l s0' h1 h2 h3 h4 => alt_all r n' f l ns.length s0' h.2 h1 h2 h3 h4
theorem alt_all : ∀ (r : List Rx) (n : List St) (f l T : Nat) (s0 : St), Rx.plainL r = true → T < n.length → l < n.length → n[l]? = some s0 → s0.to = -1 → AR T n f l s0 r (bAltGo r n (some (f, l)) T)
 | [], n, f, l, T, s0, _, _, _, h3, h4 => alt_nil h3 h4
 | x :: r, n, f, l, T, s0, h, h1, h2, h3, h4 => by
  simp only [Rx.plainL, Bool.and_eq_true] at h
  exact alt_cons h1 h2 h3 h4 (part_all x n h.1) fun n' s0' g1 g2 g3 g4 => alt_all r n' f (bPart x n).1.length T s0' h.2 g1 g2 g3 g4
end
/-! ### how great it is -/
mutual
theorem len_part : ∀ (r : Rx) (ns : List St), (bPart r ns).1.length + 1 ≤ ns.length + 3 * r.nodes
 | .mk k s l, ns => by
  rw [bPart, Rx.nodes]
  split
  ·simp; omega
  ·split
   ·have := len_cat l ns; omega
   ·split
    ·have := len_alt l (ns ++ [st0]) none ns.length
     simp only [List.length_append, List.length_cons, List.length_nil] at this
     omega
    ·split
     ·have := len_star l ns; omega
     ·split
      ·simp [bFree_len]; omega
      ·simp; omega
theorem len_star : ∀ (l : List Rx) (ns : List St), (bStar l ns).1.length ≤ ns.length + 3 * Rx.nodesL l + 1
 | [], ns => by rw [bStar]; simp [Rx.nodesL]
 | a :: t, ns => by
  have := len_part a (ns ++ [st0, st0])
  simp only [List.length_append, List.length_cons, List.length_nil] at this
  rw [bStar]
  simp only [bFree_len, Rx.nodesL]
  omega
theorem len_cat : ∀ (l : List Rx) (ns : List St), (bCat l ns).1.length ≤ ns.length + 3 * Rx.nodesL l
 | [], ns => by rw [bCat]; simp [Rx.nodesL]
 | a :: t, ns => by
  have h1 := len_part a ns
  have h2 := len_catGo t (bPart a ns).1 (bPart a ns).2.1 (bPart a ns).2.2
  rw [bCat, Rx.nodesL]
  omega
theorem len_catGo : ∀ (l : List Rx) (ns : List St) (f t : Nat), (bCatGo l ns f t).1.length ≤ ns.length + 3 * Rx.nodesL l
 | [], ns, f, t => by rw [bCatGo]; simp [Rx.nodesL]
 | a :: r, ns, f, t => by
  have h1 := len_part a ns
  have h2 := len_catGo r (bFree (bPart a ns).1 t (bPart a ns).2.1) f (bPart a ns).2.2
  rw [bFree_len] at h2
  rw [bCatGo, Rx.nodesL]
  omega
theorem len_alt : ∀ (l : List Rx) (ns : List St) (fl : Option (Nat × Nat)) (t : Nat), (bAltGo l ns fl t).1.length ≤ ns.length + 3 * Rx.nodesL l
 | [], ns, fl, t => by rw [bAltGo]; simp [Rx.nodesL]
 | a :: r, ns, none, t => by
  have h1 := len_part a ns
  have h2 := len_alt r (bFree (bPart a ns).1 (bPart a ns).2.2 t ++ [stF [((bPart a ns).2.1 : Int)]]) (some ((bPart a ns).1.length, (bPart a ns).1.length)) t
  simp only [List.length_append, bFree_len, List.length_cons, List.length_nil] at h2
  rw [bAltGo, Rx.nodesL]
  omega
 | a :: r, ns, some (f, l), t => by
  have h1 := len_part a ns
  have h2 := len_alt r (bFree (bFree (bPart a ns).1 (bPart a ns).2.2 t ++ [stF [((bPart a ns).2.1 : Int)]]) l (bPart a ns).1.length) (some (f, (bPart a ns).1.length)) t
  simp only [List.length_append, bFree_len, List.length_cons, List.length_nil] at h2
  rw [bAltGo, Rx.nodesL]
  omega
end
/-! ### a run -/
inductive Acc (M : List St) : Nat → List Int → Nat → Prop
 | refl {i : Nat} : Acc M i [] i
 | eps {i j k : Nat} {w : List Int} {s : St} : M[i]? = some s → (j : Int) ∈ s.free → Acc M j w k → Acc M i w k
 | byte {i j k : Nat} {b : Int} {w : List Int} {s : St} : M[i]? = some s → s.to = (j : Int) → s.has b = true → Acc M j w k → Acc M i (b :: w) k
end Go.Proofs.YtfdgbghlanbddaaDoor.Av
set_option linter.unusedVariables false
set_option linter.unusedSimpArgs false
namespace Go.Proofs.YtfdgbghlanbddaaDoor.Av
/-! ### the words of the states -/
def wordsOk (ns : List St) : Prop := ∀ s ∈ ns, 0 ≤ s.w0 ∧ 0 ≤ s.w1 ∧ 0 ≤ s.w2 ∧ 0 ≤ s.w3
theorem wordsOk.app {a b : List St} (h : wordsOk a) (g : wordsOk b) : wordsOk (a ++ b) := fun s hs => (List.mem_append.1 hs).elim (h s) (g s)
theorem words_stF (l : List Int) : wordsOk [stF l] := fun s hs => by
 simp only [List.mem_cons, List.not_mem_nil, or_false] at hs
 subst hs
 exact ⟨Int.le_refl _, Int.le_refl _, Int.le_refl _, Int.le_refl _⟩
theorem words_st0 : wordsOk [st0] := words_stF []
theorem words_st00 : wordsOk [st0, st0] := words_st0.app words_st0
theorem wordsOk.free {ns : List St} (h : wordsOk ns) (i j : Nat) : wordsOk (bFree ns i j) := by
 unfold bFree
 split
 ·rename_i s hs
  intro x hx
  rcases List.mem_or_eq_of_mem_set hx with hx | hx
  ·exact h x hx
  ·subst hx
   exact h s (List.mem_of_getElem? hs)
 ·exact h
mutual
theorem words_part : ∀ (r : Rx) (ns : List St), r.ok → wordsOk ns → wordsOk (bPart r ns).1
 | .mk k s l, ns, h, g => by
  have hs : s.ok := h.2.1
  have hl : Rx.oks l := h.2.2
  rw [bPart]
  split
  ·refine g.app (words_st0.app (b := [_]) fun x hx => ?_)
   simp only [List.mem_cons, List.not_mem_nil, or_false] at hx
   subst hx
   exact ⟨hs.1, hs.2.1, hs.2.2.1, hs.2.2.2.1⟩
  ·split
   ·exact words_cat l ns hl g
   ·split
    ·exact words_alt l _ none _ hl (g.app words_st0)
    ·split
     ·exact words_star l ns hl g
     ·split
      ·exact (g.app words_st00).free _ _
      ·exact g.app words_st00
theorem words_star : ∀ (l : List Rx) (ns : List St), Rx.oks l → wordsOk ns → wordsOk (bStar l ns).1
 | [], ns, _, g => by rw [bStar]; exact g
 | a :: t, ns, h, g => by
  rw [bStar]
  exact (((words_part a _ h.1 (g.app words_st00)).free _ _).free _ _).free _ _
theorem words_cat : ∀ (l : List Rx) (ns : List St), Rx.oks l → wordsOk ns → wordsOk (bCat l ns).1
 | [], ns, _, g => by rw [bCat]; exact g
 | a :: t, ns, h, g => by
  rw [bCat]
  exact words_catGo t _ _ _ h.2 (words_part a _ h.1 g)
theorem words_catGo : ∀ (l : List Rx) (ns : List St) (f t : Nat), Rx.oks l → wordsOk ns → wordsOk (bCatGo l ns f t).1
 | [], ns, _, _, _, g => by rw [bCatGo]; exact g
 | a :: r, ns, f, t, h, g => by
  rw [bCatGo]
  exact words_catGo r _ _ _ h.2 ((words_part a _ h.1 g).free _ _)
theorem words_alt : ∀ (l : List Rx) (ns : List St) (fl : Option (Nat × Nat)) (t : Nat), Rx.oks l → wordsOk ns → wordsOk (bAltGo l ns fl t).1
 | [], ns, _, _, _, g => by rw [bAltGo]; exact g
 | a :: r, ns, none, t, h, g => by
  rw [bAltGo]
  exact words_alt r _ _ _ h.2 (((words_part a _ h.1 g).free _ _).app (words_stF _))
 | a :: r, ns, some (f, l), t, h, g => by
  rw [bAltGo]
  exact words_alt r _ _ _ h.2 ((((words_part a _ h.1 g).free _ _).app (words_stF _)).free _ _)
end
end Go.Proofs.YtfdgbghlanbddaaDoor.Av
set_option linter.unusedVariables false
set_option linter.unusedSimpArgs false
namespace Go.Proofs.YtfdgbghlanbddaaDoor.Av
/-! ### what the constructors speak -/
theorem or_hasI {a b : W4} (ha : a.ok) (hb : b.ok) (c : Int) : (a.or b).hasI c = (a.hasI c || b.hasI c) := by
 obtain ⟨a0, a1, a2, a3, _⟩ := ha
 obtain ⟨b0, b1, b2, b3, _⟩ := hb
 unfold W4.hasI hasW
 have hx : ∃ x y : Int, 0 ≤ x ∧ 0 ≤ y ∧ word a.w0 a.w1 a.w2 a.w3 c = x ∧ word b.w0 b.w1 b.w2 b.w3 c = y ∧ word (a.or b).w0 (a.or b).w1 (a.or b).w2 (a.or b).w3 c = orI x y := by
  unfold word W4.or
  dsimp only
  repeat' split
  all_goals first | exact ⟨_, _, a0, b0, rfl, rfl, rfl⟩ | exact ⟨_, _, a1, b1, rfl, rfl, rfl⟩ | exact ⟨_, _, a2, b2, rfl, rfl, rfl⟩ | exact ⟨_, _, a3, b3, rfl, rfl, rfl⟩
 obtain ⟨x, y, h1, h2, e1, e2, e3⟩ := hx
 rw [e1, e2, e3, bit_int h1, bit_int h2, bit_int (by unfold orI; omega)]
 unfold orI
 rw [Int.toNat_natCast, Nat.testBit_or]
theorem noSet_hasI (c : Int) : noSet.hasI c = false := by
  unfold W4.hasI hasW noSet
  have : word 0 0 0 0 c = 0 := by unfold word; repeat' split
                                  all_goals rfl
  rw [this]
  simp
theorem altSet_hasI : ∀ {l : List Rx} {s : W4} (c : Int), s.ok → (∀ r ∈ l, r.set.ok) → ((altSet s l).hasI c = true ↔ s.hasI c = true ∨ ∃ r ∈ l, r.kind = 3 ∧ r.set.hasI c = true)
 | [], s, c, _, _ => by simp [altSet]
 | r :: t, s, c, h, ho => by
  have e : altSet s (r :: t) = altSet (if r.kind = 3 then s.or r.set else s) t := rfl
  have hr := ho r (by simp)
  have ih := altSet_hasI (l := t) (s := if r.kind = 3 then s.or r.set else s) c (by split; exact or_ok h hr; exact h) (fun x hx => ho x (by simp [hx]))
  rw [e, ih]
  by_cases hk : r.kind = 3
  ·rw [if_pos hk, or_hasI h hr]
   simp [hk, or_assoc]
  ·rw [if_neg hk]
   simp [hk]
theorem flat_cat : ∀ (l : List Rx) (w : List Int), Rx.langCat (flatR 4 l) w ↔ Rx.langCat l w
 | [], w => by rw [flatR]
 | r :: t, w => by
  rw [flatR, langCat_app, langCat_cons]
  have ih := flat_cat t
  constructor
  ·rintro ⟨u, v, rfl, h1, h2⟩
   refine ⟨u, v, rfl, ?_, (ih v).1 h2⟩
   split at h1
   ·rename_i hk; exact (kind_4 hk u).2 h1
   ·exact langCat_one.1 h1
  ·rintro ⟨u, v, rfl, h1, h2⟩
   refine ⟨u, v, rfl, ?_, (ih v).2 h2⟩
   split
   ·rename_i hk; exact (kind_4 hk u).1 h1
   ·exact langCat_one.2 h1
theorem flat_alt (l : List Rx) (w : List Int) : Rx.langAlt (flatR 5 l) w ↔ Rx.langAlt l w := by
 induction l with
 | nil => rw [flatR]
 | cons r t ih =>
  rw [flatR, langAlt_cons, ← ih, langAlt_iff, langAlt_iff]
  by_cases hk : r.kind = 5
  ·rw [if_pos hk, ← kind_5 hk, langAlt_iff]
   simp only [List.mem_append]
   constructor
   ·rintro ⟨a, h | h, g⟩
    ·exact .inl ⟨a, h, g⟩
    ·exact .inr ⟨a, h, g⟩
   ·rintro (⟨a, h, g⟩ | ⟨a, h, g⟩)
    ·exact ⟨a, .inl h, g⟩
    ·exact ⟨a, .inr h, g⟩
  ·rw [if_neg hk]
   simp
theorem cat_filter : ∀ (l : List Rx) (w : List Int), Rx.langCat (catOuts l) w ↔ Rx.langCat l w
 | [], w => by rfl
 | r :: t, w => by
  have ih := cat_filter t
  unfold catOuts at ih ⊢
  rw [List.filter_cons, langCat_cons]
  by_cases hk : r.kind = 2
  ·rw [if_neg (by simp [hk]), ih]
   constructor
   ·intro h; exact ⟨[], w, rfl, (kind_2 hk _).2 rfl, h⟩
   ·rintro ⟨u, v, rfl, h1, h2⟩
    rw [kind_2 hk] at h1
    subst h1
    exact h2
  ·rw [if_pos (by simp [hk]), langCat_cons]
   simp only [ih]
theorem catOf_lang (l : List Rx) (w : List Int) : (catOf l).lang w ↔ Rx.langCat l w := by
 match l with
 | [] => rw [catOf, kind_2 (r := emptyR) rfl, langCat_nil]
 | [x] => rw [catOf, langCat_one]
 | x :: y :: t => rw [catOf, kind_4 rfl]; rfl
theorem altOf_lang (l : List Rx) (w : List Int) : (altOf l).lang w ↔ Rx.langAlt l w := by
 match l with
 | [] => exact ⟨fun h => absurd h (kind_0 (r := noneR) (by decide) w), fun h => absurd h (langAlt_nil w)⟩
 | [x] => rw [altOf, langAlt_iff]; simp
 | x :: y :: t => rw [altOf, ← kind_5 rfl]; rfl
theorem langCat_none {l : List Rx} (h : ∃ r ∈ l, r.kind = 1) (w : List Int) : ¬ Rx.langCat l w := by
 induction l generalizing w with
 | nil => simp at h
 | cons a t ih =>
  rw [langCat_cons]
  rintro ⟨u, v, rfl, h1, h2⟩
  obtain ⟨r, hr, hk⟩ := h
  rcases List.mem_cons.1 hr with e | hr
  ·subst e; exact kind_0 (by omega) _ h1
  ·exact ih ⟨r, hr, hk⟩ v h2
/-- A chain speaks one behind the other. -/
theorem catR_lang (l : List Rx) (w : List Int) : (catR l).lang w ↔ Rx.langCat l w := by
 unfold catR
 split
 ·rename_i h
  simp only [List.any_eq_true, decide_eq_true_eq] at h
  rw [← flat_cat l]
  exact ⟨fun g => absurd g (kind_0 (r := noneR) (by decide) w), fun g => absurd g (langCat_none h w)⟩
 ·rw [catOf_lang, ← flat_cat l, ← cat_filter (flatR 4 l)]
  rfl
theorem tidy_set' {l : List Rx} (h : Rx.tidyL l) : ∀ r ∈ l, r.set.ok := fun r hr => tidy_set ((Rx.tidyL_iff _).1 h r hr)
/-- A choice speaks what one of its parts speaks. -/
theorem altR_lang {l : List Rx} (h : Rx.tidyL l) (w : List Int) : (altR l).lang w ↔ Rx.langAlt l w := by
 have hf := flat_tidy (k := 5) h
 have ho := tidy_set' hf
 obtain ⟨o1, o2, o3⟩ := altOuts_props (o := []) hf (by simp [Rx.tidyL]) (by simp [SortedR])
 obtain ⟨p1, p2, p3⟩ := altFin_props o1 o2 (altSet_ok noSet_ok ho)
 unfold altR
 rw [altOf_lang, ← flat_alt l, langAlt_iff, langAlt_iff]
 have hs := fun c => altSet_hasI (l := flatR 5 l) c noSet_ok ho
 generalize altSet noSet (flatR 5 l) = s at p3 hs ⊢
 constructor
 ·rintro ⟨x, hx, hw⟩
  rcases (p3 x).1 hx with hx | ⟨h1, rfl⟩
  ·rcases (o3 x).1 hx with hx | ⟨hx, _, _⟩
   ·simp at hx
   ·exact ⟨x, hx, hw⟩
  ·obtain ⟨c, rfl, hc⟩ := (kind_3 (r := .mk 3 s []) rfl w).1 hw
   rcases (hs c).1 hc with h2 | ⟨r, hr, hk, h2⟩
   ·rw [noSet_hasI] at h2; cases h2
   ·exact ⟨r, hr, (kind_3 hk _).2 ⟨c, rfl, h2⟩⟩
 ·rintro ⟨x, hx, hw⟩
  by_cases h1 : x.kind = 1
  ·exact absurd hw (kind_0 (by omega) w)
  ·by_cases h3 : x.kind = 3
   ·obtain ⟨c, rfl, hc⟩ := (kind_3 h3 w).1 hw
    have hsc := (hs c).2 (.inr ⟨x, hx, h3, hc⟩)
    refine ⟨.mk 3 s [], (p3 _).2 (.inr ⟨fun e => ?_, rfl⟩), (kind_3 rfl _).2 ⟨c, rfl, hsc⟩⟩
    rw [e, noSet_hasI] at hsc
    cases hsc
   ·exact ⟨x, (p3 _).2 (.inl ((o3 _).2 (.inr ⟨hx, h1, h3⟩))), hw⟩
/-! ### tidy ones -/
theorem tidy_mk {k : Int} {l : List Rx} (h : Rx.tidyL l) : (Rx.mk k noSet l).tidy := by
 simp only [Rx.tidy]
 exact ⟨fun _ => trivial, noSet_ok, h⟩
theorem tidy_none : noneR.tidy := tidy_mk (by simp [Rx.tidyL])
theorem tidy_empty : emptyR.tidy := tidy_mk (by simp [Rx.tidyL])
theorem tidy_bytes {s : W4} (h : s.ok) : (bytesR s).tidy := by
 unfold bytesR
 split
 ·exact tidy_none
 ·exact tidy_mkset h
theorem catOf_tidy {l : List Rx} (h : Rx.tidyL l) : (catOf l).tidy := by
 match l with
 | [] => exact tidy_empty
 | [x] => exact h.1
 | x :: y :: t => exact tidy_mk h
theorem altOf_tidy {l : List Rx} (h : Rx.tidyL l) : (altOf l).tidy := by
 match l with
 | [] => exact tidy_none
 | [x] => exact h.1
 | x :: y :: t => exact tidy_mk h
theorem filter_tidy {p : Rx → Bool} {l : List Rx} (h : Rx.tidyL l) : Rx.tidyL (l.filter p) := by
 rw [Rx.tidyL_iff] at h ⊢
 exact fun x hx => h x (mem_filt hx)
theorem catR_tidy {l : List Rx} (h : Rx.tidyL l) : (catR l).tidy := by
 unfold catR
 split
 ·exact tidy_none
 ·exact catOf_tidy (filter_tidy (flat_tidy h))
theorem altR_tidy {l : List Rx} (h : Rx.tidyL l) : (altR l).tidy := by
 have hf := flat_tidy (k := 5) h
 obtain ⟨o1, o2, o3⟩ := altOuts_props (o := []) hf (by simp [Rx.tidyL]) (by simp [SortedR])
 exact altOf_tidy (altFin_props o1 o2 (altSet_ok noSet_ok (tidy_set' hf))).1
theorem starN_tidy : ∀ (n : Nat) {r : Rx}, r.tidy → (starN n r).tidy
 | 0, r, h => h
 | n + 1, r, h => by
  simp only [starN]
  split
  ·exact h
  ·split
   ·exact tidy_empty
   ·split
    ·exact starN_tidy n (altR_tidy (filter_tidy (tidy_args h)))
    ·exact tidy_mk ⟨h, trivial⟩
theorem starR_tidy {r : Rx} (h : r.tidy) : (starR r).tidy := starN_tidy 2000 h
/-! ### any number -/
theorem Star.one {P : List Int → Prop} {w : List Int} (h : P w) : Star P w := by
 have := Star.cons h Star.nil
 rwa [List.append_nil] at this
theorem Star.app {P : List Int → Prop} {u v : List Int} (h : Star P u) (g : Star P v) : Star P (u ++ v) := by
 induction h with
 | nil => exact g
 | cons h1 _ ih => rw [List.append_assoc]; exact .cons h1 ih
theorem Star.bind {P Q : List Int → Prop} {w : List Int} (h : Star P w) (hP : ∀ u, P u → Star Q u) : Star Q w := by
 induction h with
 | nil => exact .nil
 | cons h1 _ ih => exact (hP _ h1).app ih
/-! ### an expression out of numbers is tidy -/
theorem pLeaf_tidy {k : Int} {q : List Int} (hq : bytesOk q) : (pLeaf k q).1.tidy := by
 unfold pLeaf
 split
 ·exact tidy_bytes (pSet_ok hq).1
 ·dsimp only
  split
  ·exact tidy_none
  ·exact tidy_empty
theorem pRx_tidy : ∀ (f : Nat) {q : List Int}, bytesOk q → (pRx f q).1.tidy
 | 0, q, hq => pLeaf_tidy hq.tail
 | f + 1, q, hq => by
  have a1 := pRx_tidy f hq.tail
  have a2 := pRx_tidy f (pRx_ok f hq.tail).2.1
  have hl : Rx.tidyL [(pRx f q.tail).1, (pRx f (pRx f q.tail).2).1] := ⟨a1, a2, trivial⟩
  simp only [pRx]
  split
  ·exact pLeaf_tidy hq.tail
  ·split
   ·exact catR_tidy hl
   ·split
    ·exact altR_tidy hl
    ·have h8 := starR_tidy a1
     dsimp only
     generalize starR (pRx f q.tail).1 = z at h8 ⊢
     exact h8
end Go.Proofs.YtfdgbghlanbddaaDoor.Av
set_option linter.unusedVariables false
set_option linter.unusedSimpArgs false
namespace Go.Proofs.YtfdgbghlanbddaaDoor.Av
def joinB (P Q : List Int → Bool) (w : List Int) (k : Nat) : Bool := (List.range k).any fun i => P (w.take i) && Q (w.drop i)
def manyB (P Q : List Int → Bool) (w : List Int) (k : Nat) : Bool := decide (w.length = 0) || (List.range k).any fun i => decide (0 < i) && P (w.take i) && Q (w.drop i)
theorem star_first {P : List Int → Prop} {w : List Int} : Star P w ↔ w = [] ∨ ∃ u v, w = u ++ v ∧ u ≠ [] ∧ P u ∧ Star P v := by
 constructor
 ·intro h
  induction h with
  | nil => exact .inl rfl
  | @cons u v h1 h2 ih =>
   by_cases hu : u = []
   ·subst hu
    exact ih
   ·exact .inr ⟨u, v, rfl, hu, h1, h2⟩
 ·rintro (rfl | ⟨u, v, rfl, _, h1, h2⟩)
  ·exact .nil
  ·exact .cons h1 h2
end Go.Proofs.YtfdgbghlanbddaaDoor.Av
set_option linter.unusedVariables false
set_option linter.unusedSimpArgs false
namespace Go.Proofs.YtfdgbghlanbddaaDoor.Av
/-! ### where the words end that begin at the marked places -/
open Classical in
noncomputable def endsP (L : List Int → Prop) (w : List Int) (p : Nat → Bool) (j : Nat) : Bool := decide (∃ i, i ≤ j ∧ p i = true ∧ L (sl w i j))
theorem ends_iff {L : List Int → Prop} {w : List Int} {p : Nat → Bool} {j : Nat} : endsP L w p j = true ↔ ∃ i, i ≤ j ∧ p i = true ∧ L (sl w i j) := by
 unfold endsP
 simp only [decide_eq_true_eq]
theorem ends_congr {L M : List Int → Prop} (h : ∀ x, L x ↔ M x) (w : List Int) (p : Nat → Bool) (j : Nat) : endsP L w p j = endsP M w p j := by
 rw [Bool.eq_iff_iff, ends_iff, ends_iff]
 simp only [h]
theorem ends_eps {L : List Int → Prop} (hL : ∀ x, L x ↔ x = []) {w : List Int} {n j : Nat} (hn : n = w.length + 1) (hj : j < n) (p : Nat → Bool) : p j = endsP L w p j := by
 rw [Bool.eq_iff_iff, ends_iff]
 constructor
 ·intro h; exact ⟨j, Nat.le_refl _, h, (hL _).2 (sl_self w j)⟩
 ·rintro ⟨i, h1, h2, h3⟩
  rw [hL, sl_nil h1 (by omega)] at h3
  exact h3 ▸ h2
theorem ends_none {L : List Int → Prop} (hL : ∀ x, ¬ L x) {w : List Int} {p : Nat → Bool} {j : Nat} : false = endsP L w p j := by
 symm
 rw [Bool.eq_false_iff, ne_eq, ends_iff]
 rintro ⟨_, _, _, h⟩
 exact hL _ h
def eg (s : W4) (w : List Int) (p : Nat → Bool) (i j : Nat) : Bool := decide (0 < j ∧ j ≤ i) && (p (j - 1) && s.hasI (w.getD (j - 1) 0))
theorem eg_start {s : W4} {w : List Int} {p : Nat → Bool} {j : Nat} : false = eg s w p 0 j := by
 unfold eg
 rw [decide_eq_false (by omega), Bool.false_and]
theorem eg_step {s : W4} {w : List Int} {p : Nat → Bool} {i j : Nat} (h : i < w.length) : (if j = i + 1 then (p i && s.hasI w[i]) else eg s w p i j) = eg s w p (i + 1) j := by
 unfold eg
 by_cases hj : j = i + 1
 ·subst hj
  rw [if_pos rfl, decide_eq_true (by omega), Bool.true_and, Nat.add_sub_cancel, List.getD_eq_getElem?_getD, List.getElem?_eq_getElem h]
  rfl
 ·rw [if_neg hj]
  congr 1
  rw [decide_eq_decide]
  omega
theorem eg_done {s : W4} {L : List Int → Prop} (hL : ∀ x, L x ↔ ∃ c, x = [c] ∧ s.hasI c = true) {w : List Int} {n j : Nat} (hn : n = w.length + 1) (hj : j < n) (p : Nat → Bool) : eg s w p w.length j = endsP L w p j := by
 unfold eg
 rw [Bool.eq_iff_iff, ends_iff]
 simp only [Bool.and_eq_true, decide_eq_true_eq]
 constructor
 ·rintro ⟨⟨h1, h2⟩, h3, h4⟩
  refine ⟨j - 1, by omega, h3, (hL _).2 ⟨w[j - 1]'(by omega), ?_, ?_⟩⟩
  ·have := sl_one (w := w) (i := j - 1) (by omega)
   rwa [show j - 1 + 1 = j by omega] at this
  ·rw [List.getD_eq_getElem?_getD, List.getElem?_eq_getElem (by omega)] at h4
   exact h4
 ·rintro ⟨i, h1, h2, h3⟩
  obtain ⟨c, h3, h4⟩ := (hL _).1 h3
  have hl := sl_len (w := w) (i := i) (j := j) (by omega)
  rw [h3] at hl
  simp at hl
  have : i = j - 1 := by omega
  subst this
  refine ⟨⟨by omega, by omega⟩, h2, ?_⟩
  have h5 := sl_one (w := w) (i := j - 1) (by omega)
  rw [show j - 1 + 1 = j by omega, h3] at h5
  injection h5 with h5
  rw [List.getD_eq_getElem?_getD, List.getElem?_eq_getElem (by omega)]
  exact h5 ▸ h4
theorem ends_comp {L M : List Int → Prop} {w : List Int} {p : Nat → Bool} {j : Nat} (hj : j ≤ w.length) : endsP M w (endsP L w p) j = endsP (fun x => ∃ u v, x = u ++ v ∧ L u ∧ M v) w p j := by
 rw [Bool.eq_iff_iff, ends_iff, ends_iff]
 constructor
 ·rintro ⟨i, h1, h2, h3⟩
  obtain ⟨k, h4, h5, h6⟩ := ends_iff.1 h2
  exact ⟨k, by omega, h5, _, _, sl_app h4 h1 hj, h6, h3⟩
 ·rintro ⟨i, h1, h2, u, v, h3, h4, h5⟩
  obtain ⟨g1, g2, g3⟩ := sl_cut h1 hj h3
  exact ⟨i + u.length, g1, ends_iff.2 ⟨i, by omega, h2, g2 ▸ h4⟩, g3 ▸ h5⟩
theorem ends_cat {l : List Rx} {k : Nat} (hk : k < l.length) {w : List Int} {p : Nat → Bool} {n j : Nat} (hn : n = w.length + 1) (hj : j < n) : endsP (l[k]).lang w (endsP (Rx.langCat (l.take k)) w p) j = endsP (Rx.langCat (l.take (k + 1))) w p j := by
 rw [ends_comp (by omega)]
 refine ends_congr (fun x => ?_) w p j
 rw [List.take_add_one, List.getElem?_eq_getElem hk, langCat_app]
 simp only [Option.toList_some, langCat_one]
theorem ends_alt {l : List Rx} {k : Nat} (hk : k < l.length) (w : List Int) (p : Nat → Bool) (j : Nat) : (endsP (Rx.langAlt (l.take k)) w p j || endsP (l[k]).lang w p j) = endsP (Rx.langAlt (l.take (k + 1))) w p j := by
 rw [Bool.eq_iff_iff, Bool.or_eq_true, ends_iff, ends_iff, ends_iff]
 rw [List.take_add_one, List.getElem?_eq_getElem hk]
 simp only [Option.toList_some, langAlt_iff, List.mem_append, List.mem_singleton]
 constructor
 ·rintro (⟨i, h1, h2, a, h3, h4⟩ | ⟨i, h1, h2, h3⟩)
  ·exact ⟨i, h1, h2, a, .inl h3, h4⟩
  ·exact ⟨i, h1, h2, _, .inr rfl, h3⟩
 ·rintro ⟨i, h1, h2, a, h3 | h3, h4⟩
  ·exact .inl ⟨i, h1, h2, a, h3, h4⟩
  ·exact .inr ⟨i, h1, h2, h3 ▸ h4⟩
/-- p or, below place i, q. -/
def orP (p q : Nat → Bool) (i j : Nat) : Bool := p j || (decide (j < i) && q j)
def chg (p q : Nat → Bool) (i : Nat) : Bool := (List.range i).any fun j => q j && !p j
theorem chg_succ (p q : Nat → Bool) (i : Nat) : chg p q (i + 1) = (chg p q i || (q i && !p i)) := by
 unfold chg
 rw [List.range_succ, List.any_append]
 simp
theorem orP_start {p q : Nat → Bool} {j : Nat} : p j = orP p q 0 j := by simp [orP]
theorem orP_here {p q : Nat → Bool} {i : Nat} : orP p q i i = p i := by simp [orP]
theorem orP_yes {p q : Nat → Bool} {i j : Nat} (h : q i = true) : (if j = i then true else orP p q i j) = orP p q (i + 1) j := by
 unfold orP
 by_cases hj : j = i
 ·subst hj; simp [h]
 ·rw [if_neg hj, show decide (j < i + 1) = decide (j < i) by rw [decide_eq_decide]; omega]
theorem orP_no {p q : Nat → Bool} {i j : Nat} (h : (q i && !p i) = false) : orP p q i j = orP p q (i + 1) j := by
 unfold orP
 by_cases hj : j = i
 ·subst hj
  simp only [Nat.lt_irrefl, decide_false, Bool.false_and, Nat.lt_succ_self, decide_true, Bool.true_and, Bool.or_false]
  cases h1 : q j <;> cases h2 : p j <;> simp_all
 ·rw [show decide (j < i + 1) = decide (j < i) by rw [decide_eq_decide]; omega]
theorem orP_done {p q : Nat → Bool} {n j : Nat} (h : j < n) : orP p q n j = (p j || q j) := by simp [orP, h]
/-- How many places are not marked. -/
def falses (n : Nat) (q : Nat → Bool) : Nat := (List.range n).countP fun i => !q i
theorem falses_less : ∀ {n : Nat} {q e : Nat → Bool}, chg q e n = true → falses n (orP q e n) < falses n q := by
 intro n q e h
 have key : ∀ m, m ≤ n → (List.range m).countP (fun i => !orP q e n i) + (if chg q e m = true then 1 else 0) ≤ (List.range m).countP fun i => !q i := by
  intro m
  induction m with
  | zero => intro _; simp [chg]
  | succ m ih =>
   intro hm
   have := ih (by omega)
   rw [chg_succ, List.range_succ, List.countP_append, List.countP_append]
   simp only [List.countP_cons, List.countP_nil, orP_done (show m < n by omega)]
   cases h1 : q m <;> cases h2 : e m <;> cases h3 : chg q e m <;> simp_all <;> omega
 have := key n (Nat.le_refl _)
 rw [if_pos h] at this
 unfold falses
 omega
/-- Between what came in and what any number of words reach. -/
def Mid (L : List Int → Prop) (w : List Int) (n : Nat) (p q : Nat → Bool) : Prop := (∀ j, j < n → p j = true → q j = true) ∧ ∀ j, j < n → q j = true → endsP (Star L) w p j = true
theorem mid_start {L : List Int → Prop} {w : List Int} {n : Nat} {p : Nat → Bool} : Mid L w n p p :=
 ⟨fun _ _ h => h, fun j _ h => ends_iff.2 ⟨j, Nat.le_refl _, h, by rw [sl_self]; exact .nil⟩⟩
theorem mid_step {L : List Int → Prop} {w : List Int} {n : Nat} {p q : Nat → Bool} (hn : n = w.length + 1) (h : Mid L w n p q) : Mid L w n p (orP q (endsP L w q) n) := by
 refine ⟨fun j hj hp => by rw [orP_done hj, h.1 j hj hp]; rfl, fun j hj hq => ?_⟩
 rw [orP_done hj, Bool.or_eq_true] at hq
 rcases hq with hq | hq
 ·exact h.2 j hj hq
 ·obtain ⟨i, h1, h2, h3⟩ := ends_iff.1 hq
  obtain ⟨k, h4, h5, h6⟩ := ends_iff.1 (h.2 i (by omega) h2)
  refine ends_iff.2 ⟨k, by omega, h5, ?_⟩
  rw [sl_app h4 h1 (by omega)]
  exact star_app h6 (star_one h3)
theorem mid_done {L : List Int → Prop} {w : List Int} {n : Nat} {p q : Nat → Bool} (hn : n = w.length + 1) (h : Mid L w n p q) (hc : chg q (endsP L w q) n = false) {j : Nat} (hj : j < n) : q j = endsP (Star L) w p j := by
 rw [Bool.eq_iff_iff]
 refine ⟨h.2 j hj, fun g => ?_⟩
 have hc2 : ∀ k, k < n → endsP L w q k = true → q k = true := by
  intro k hk he
  unfold chg at hc
  rw [List.any_eq_false] at hc
  have := hc k (List.mem_range.2 hk)
  simpa [he] using this
 obtain ⟨i, h1, h2, h3⟩ := ends_iff.1 g
 rw [star_iff h1 (by omega)] at h3
 have : ∀ j, SR L w i j → j < n → q j = true := by
  intro j hs
  induction hs with
  | base => intro hj; exact h.1 i hj h2
  | @step a b hs hab hb hl ih =>
   intro hj
   exact hc2 b hj (ends_iff.2 ⟨a, by omega, ih (by omega), hl⟩)
 exact this j h3 hj
theorem mid_none {L : List Int → Prop} (hL : ∀ x, ¬ L x) {w : List Int} {n : Nat} {p q : Nat → Bool} (hn : n = w.length + 1) (h : Mid L w n p q) {j : Nat} (hj : j < n) : q j = endsP (Star L) w p j := by
 refine mid_done hn h ?_ hj
 unfold chg
 rw [List.any_eq_false]
 intro k hk
 rw [← ends_none hL]
 simp
/-- All else is al' it was. -/
def OK1 (es es2 : List Ent) (id : Nat) : Prop := (∀ i, i ≠ id → at_ es2 i = at_ es i) ∧ es2.length = es.length
theorem OK1.refl (es : List Ent) (id : Nat) : OK1 es es id := ⟨fun _ _ => rfl, rfl⟩
theorem OK1.put {es es2 : List Ent} {id : Nat} (h : OK1 es es2 id) (y : Ent) : OK1 es (setAt es2 id y) id := ⟨fun i hi => (at_setAt_ne y hi).trans (h.1 i hi), by rw [setAt_len]; exact h.2⟩
theorem OK1.kb {base es es2 : List Ent} {id : Nat} (h : OK1 es es2 id) (k : KB base es) (hid : base.length ≤ id) : KB base es2 := ⟨fun i hi => (h.1 i (by omega)).trans (k.1 i hi), by rw [h.2]; exact k.2⟩
end Go.Proofs.YtfdgbghlanbddaaDoor.Av
set_option linter.unusedVariables false
set_option linter.unusedSimpArgs false
namespace Go.Proofs.YtfdgbghlanbddaaDoor.Av
open Go.RowKit
section
variable {P : Program} {w0 : World} {N : Nat} {f : Frame} {es : List Ent} {K : Frame → List Ent → Prop}
variable {d : Nat} {ty : TypeId} {pos : String} {aft : Array Edge} {g : Option (Nat × Bool)} {x y z : Operand} {a : AV}
/-- copy(dst, src), the two being al' long al' one another, each cell one word. -/
theorem o_copy {t u e id s : Nat} {rows ys : List (List AV)} {C : Ent → List Ent} (ht : sliceB P t e 1 = true) (hx : ev f x = .own id s) (he : Loc es id (.row s e 1 rows) C) (hy : ev f y = a) (hs : Src es a 1 ys) (hl : ys.length = rows.length) (h0 : 0 < rows.length)
  (k : K (upd f d (.int .i64 rows.length)) (C (.row s e 1 ys))) (hd : Nat.blt d N = true := by rfl) : AOp P w0 N ⟨some d, .call { callee := .builtin .copy, args := #[x, y], argTypes := #[t, u] }, ty, pos, aft, g⟩ f es K := by
 refine op_run hd fun c A ok rf => ?_
 have hvx := rep_own (hx ▸ rep_ev rf x) he.1
 obtain ⟨B, m, vs, hvy, hcapy, hmy, hvs, hnone, hcells⟩ := src_cells ok (hy ▸ rep_ev rf y) hs
 have hvl : vs.length = rows.length := by rw [hvs.length, hl, Nat.mul_one]
 obtain ⟨p, hp⟩ : ∃ p, c.phi id = some p := by
  cases hq : c.phi id with
  | some p => exact ⟨p, rfl⟩
  | none =>
   obtain ⟨_, _, _, _, _, hown⟩ := ok.ent id _ he.1
   rw [hq] at hown
   rcases hown.2 with ⟨_, h1⟩ | ⟨_, _, _, h1, _⟩
   ·omega
   ·cases h1
 obtain ⟨gb, cap⟩ := p
 obtain ⟨xs, cur, h4, hheap, hcap, hcm, hsz, htake, h5⟩ := own_cells ok he.1 hp
 rw [hp] at hvx
 obtain ⟨q, rfl⟩ : ∃ q, B = some q := by
  cases B with
  | some q => exact ⟨q, rfl⟩
  | none => have := hnone rfl; rw [this] at hvl; simp at hvl; omega
 have hcl : cur.toList.length = cap := by rw [Array.length_toList, hsz, Nat.mul_one]
 unfold sliceB at ht
 split at ht
 ·rename_i e' i' hu hi
  simp only [Bool.and_eq_true, beq_iff_eq] at ht
  obtain ⟨rfl, hi1⟩ := ht
  have hrun := run_copy_row (P := P) c.w t u ty e' gb 0 rows.length cap q ys.length m cur e' vs hu (by rw [hi]; simp [hi1]) hheap (by rw [hvl, hl]; simp) (fun j v hj => hcells q rfl j v hj) (by rw [hvl, Nat.zero_add, hsz, Nat.mul_one]; exact hcap) hvs.one
  have hrows : RepRows c (some es) 1 ys vs := hvs
  have hgr : c.w.grownBy (c.w.setRow gb (cur.toList.take 0 ++ vs ++ cur.toList.drop (0 + vs.length)).toArray) (ownVal (c.phi id) rows.length).ownBlock := by
   rw [hp]
   exact ⟨rfl, rfl, rfl, by simp, fun k _ hk => setRow_other c.w gb k _ (fun e => hk (by rw [own_block_some, e]))⟩
  have hown : (c.w.setRow gb (cur.toList.take 0 ++ vs ++ cur.toList.drop (0 + vs.length)).toArray).ownsRow 0 e' 1 (ownVal (some (gb, cap)) ys.length) ys.length vs :=
   ⟨by rw [hvl, hl, Nat.mul_one], .inr ⟨gb, cap, _, rfl, Nat.zero_le _, setRow_heap c.w gb cur _ e' _ hheap, by rw [hl]; exact hcap, hcm, by
    simp only [List.size_toArray, List.length_append, List.length_take, List.length_drop]
    omega, by
    simp only [List.take_zero, List.nil_append]
    rw [hl, ← hvl, Nat.mul_one, List.take_left]⟩⟩
  refine ⟨.int .i64 rows.length, c.turn _ id (some (gb, cap)), setAt es id (.row s e' 1 ys), .int .i64 rows.length, ?_, ext_turn ok he.1 hgr (.inr ⟨rfl, hl, hp.symm⟩), ok_turn ok he.1 hgr (.inr ⟨rfl, hl, hp.symm⟩) (.inl (by rw [hp]; rfl)) hmy hrows hown, by simp only [Rep], ?_⟩
  ·show (execOp A.eval _).run P c.w = .ok (.value (.int .i64 rows.length)) (c.w.setRow gb _)
   simp only [execOp, resolve, invoke, builtin, Sem.run_bind, Sem.run_pure, Result.andThen_ok, List.map_toArray, List.map_cons, List.map_nil, hvx, ownVal, hvy, hrun, hvl]
   rfl
  ·rw [he.2]
   exact k
 ·cases ht
theorem p_copy {t u e id s : Nat} {rows ys : List (List AV)} {C : Ent → List Ent} (ht : sliceB P t e 1 = true) (k : K (upd f d (.int .i64 rows.length)) (C (.row s e 1 ys))) (hl : ys.length = rows.length := by omega) (h0 : 0 < rows.length := by omega)
  (hx : ev f x = .own id s := by simp only [ev_tmp, ev_const, ev_func, ofConst_int, ofConst_bool, ofConst_str, ofConst_nil, upd_apply, Nat.reduceEqDiff, ↓reduceIte] <;> exact rfl) (he : Loc es id (.row s e 1 rows) C := by first | exact loc_hit | exact (loc_miss loc_hit) | exact (loc_miss (loc_miss loc_hit)) | exact (loc_miss (loc_miss (loc_miss loc_hit))) | exact (loc_miss (loc_miss (loc_miss (loc_miss loc_hit)))) | exact (loc_miss (loc_miss (loc_miss (loc_miss (loc_miss loc_hit))))) | exact (loc_miss (loc_miss (loc_miss (loc_miss (loc_miss (loc_miss loc_hit)))))) | exact (loc_miss (loc_miss (loc_miss (loc_miss (loc_miss (loc_miss (loc_miss loc_hit))))))) | exact (loc_miss (loc_miss (loc_miss (loc_miss (loc_miss (loc_miss (loc_miss (loc_miss loc_hit)))))))) | exact (loc_base (by assumption)) | exact (loc_miss (loc_base (by assumption))) | exact (loc_miss (loc_miss (loc_base (by assumption)))) | exact (loc_miss (loc_miss (loc_miss (loc_base (by assumption))))) | exact (loc_miss (loc_miss (loc_miss (loc_miss (loc_base (by assumption)))))) | exact (loc_miss (loc_miss (loc_miss (loc_miss (loc_miss (loc_base (by assumption))))))) | exact (loc_miss (loc_miss (loc_miss (loc_miss (loc_miss (loc_miss (loc_base (by assumption)))))))) | exact (loc_miss (loc_miss (loc_miss (loc_miss (loc_miss (loc_miss (loc_miss (loc_base (by assumption))))))))) | exact (loc_miss (loc_miss (loc_miss (loc_miss (loc_miss (loc_miss (loc_miss (loc_miss (loc_base (by assumption))))))))))) (hy : ev f y = a := by simp only [ev_tmp, ev_const, ev_func, ofConst_int, ofConst_bool, ofConst_str, ofConst_nil, upd_apply, Nat.reduceEqDiff, ↓reduceIte] <;> exact rfl) (hs : Src es a 1 ys := by first | exact src_list | exact src_nil | exact src_own (by first | exact loc_hit | exact (loc_miss loc_hit) | exact (loc_miss (loc_miss loc_hit)) | exact (loc_miss (loc_miss (loc_miss loc_hit))) | exact (loc_miss (loc_miss (loc_miss (loc_miss loc_hit)))) | exact (loc_miss (loc_miss (loc_miss (loc_miss (loc_miss loc_hit))))) | exact (loc_miss (loc_miss (loc_miss (loc_miss (loc_miss (loc_miss loc_hit)))))) | exact (loc_miss (loc_miss (loc_miss (loc_miss (loc_miss (loc_miss (loc_miss loc_hit))))))) | exact (loc_miss (loc_miss (loc_miss (loc_miss (loc_miss (loc_miss (loc_miss (loc_miss loc_hit)))))))) | exact (loc_base (by assumption)) | exact (loc_miss (loc_base (by assumption))) | exact (loc_miss (loc_miss (loc_base (by assumption)))) | exact (loc_miss (loc_miss (loc_miss (loc_base (by assumption))))) | exact (loc_miss (loc_miss (loc_miss (loc_miss (loc_base (by assumption)))))) | exact (loc_miss (loc_miss (loc_miss (loc_miss (loc_miss (loc_base (by assumption))))))) | exact (loc_miss (loc_miss (loc_miss (loc_miss (loc_miss (loc_miss (loc_base (by assumption)))))))) | exact (loc_miss (loc_miss (loc_miss (loc_miss (loc_miss (loc_miss (loc_miss (loc_base (by assumption))))))))) | exact (loc_miss (loc_miss (loc_miss (loc_miss (loc_miss (loc_miss (loc_miss (loc_miss (loc_base (by assumption)))))))))))) (hd : Nat.blt d N = true := by exact rfl) : AOp P w0 N ⟨some d, .call { callee := .builtin .copy, args := #[x, y], argTypes := #[t, u] }, ty, pos, aft, g⟩ f es K :=
 o_copy ht hx he hy hs hl h0 k hd
end
end Go.Proofs.YtfdgbghlanbddaaDoor.Av
