import Derived.Test.YtfdgbghlanbddaaDoorAvOps
set_option linter.unusedVariables false
set_option linter.unusedSimpArgs false
namespace Go.Proofs.YtfdgbghlanbddaaDoor.Av
open Go.RowKit

/-- Entry id of the stack is x; C puts another in its place. -/
def Loc (es : List Ent) (id : Nat) (x : Ent) (C : Ent → List Ent) : Prop := at_ es id = some x ∧ ∀ y, setAt es id y = C y
theorem loc_hit {x : Ent} {t : List Ent} : Loc (x :: t) t.length x (fun y => y :: t) := ⟨at_hit x t, fun y => setAt_hit x y t⟩
theorem loc_hit' {x : Ent} {t : List Ent} {id : Nat} (h : id = t.length) : Loc (x :: t) id x (fun y => y :: t) := h ▸ loc_hit
theorem loc_miss {z x : Ent} {t : List Ent} {id : Nat} {C : Ent → List Ent} (h : Loc t id x C) : Loc (z :: t) id x (fun y => z :: C y) :=
  ⟨at_miss z h.1, fun y => by rw [setAt_miss z y (at_lt h.1), h.2]⟩
theorem loc_base {x : Ent} {t : List Ent} {id : Nat} (h : at_ t id = some x) : Loc t id x (setAt t id) := ⟨h, fun _ => rfl⟩

theorem splice_eq {α : Type} (xs new : List α) (b off sz : Nat) (hf : off + new.length ≤ sz) (hl : b + sz ≤ xs.length) :
    xs.take (b + off) ++ new ++ xs.drop (b + off + new.length) = xs.take b ++ (((xs.drop b).take sz).take off ++ new ++ ((xs.drop b).take sz).drop (off + new.length)) ++ xs.drop (b + sz) := by
  rw [List.take_add, List.take_take, Nat.min_eq_left (by omega : off ≤ sz)]
  have h2 : xs.drop (b + off + new.length) = ((xs.drop b).take sz).drop (off + new.length) ++ xs.drop (b + sz) := by
    have h3 : xs.drop b = (xs.drop b).take sz ++ xs.drop (b + sz) := by
      rw [← List.drop_drop]
      exact (List.take_append_drop sz (xs.drop b)).symm
    rw [show b + off + new.length = b + (off + new.length) by omega, ← List.drop_drop, h3, List.drop_append_of_le_length (by rw [List.length_take, List.length_drop]; omega)]
    congr 1
    rw [← h3]
  rw [h2]
  simp only [List.append_assoc]

section
variable {P : Program} {w0 : World} {N : Nat} {f : Frame} {es : List Ent} {K : Frame → List Ent → Prop}
variable {d : Nat} {ty : TypeId} {pos : String} {aft : Array Edge} {g : Option (Nat × Bool)} {x y z : Operand} {a : AV}

/-- An operation that yields nothing. -/
theorem op_skip {o : Oper} (hd : dok N o.dst = true) (h : ∀ c A, Ok w0 c es → RepF N c es f A → ∃ c' es', (execOp A.eval o).run P c.w = .ok .skip c'.w ∧ Ext c es c' es' ∧ Ok w0 c' es' ∧ K (put f o.dst .any) es') : AOp P w0 N o f es K := by
  intro c A next Q ok rf hn
  obtain ⟨c', es', hr, x, ok', k⟩ := h c A ok rf
  simp only [Oper.wp, hr, Oper.upon]
  exact hn c' es' _ _ x ok' ((rf.ext x).put hd (by simp only [Rep])) k

theorem take_splice {α : Type} (xs new tl : List α) (k : Nat) (h : k + new.length ≤ xs.length) : ((xs ++ tl).take k ++ new ++ (xs ++ tl).drop (k + new.length)).take xs.length = xs.take k ++ new ++ xs.drop (k + new.length) := by
  have h1 : (xs ++ tl).take k = xs.take k := List.take_append_of_le_length (by omega)
  have h2 : (xs ++ tl).drop (k + new.length) = xs.drop (k + new.length) ++ tl := List.drop_append_of_le_length (by omega)
  rw [h1, h2, ← List.append_assoc]
  exact List.take_left' (by simp only [List.length_append, List.length_take, List.length_drop]; omega)

theorem o_store {t : TypeId} {agg : Bool} {n id s i off e sz : Nat} {rows : List (List AV)} {r l r' : List AV} {C : Ent → List Ent} (hx : ev f x = .ptr id s i off) (hy : ev f y = a) (he : Loc es id (.row s e sz rows) C) (hr : rows[i]? = some r)
    (ht : tyB P t agg n = true) (hc : cellsAV a = some l) (hn : l.length = n) (hl : off + n ≤ r.length) (hr' : r.take off ++ l ++ r.drop (off + n) = r') (k : K f (C (.row s e sz (rows.set i r')))) : AOp P w0 N ⟨none, .store t x y, ty, pos, aft, g⟩ f es K := by
  refine op_skip rfl fun c A ok rf => ?_
  have h := rep_ev rf x
  rw [hx] at h
  obtain ⟨gb, cap, hp, hv⟩ := rep_ptr h he.1
  have hu := rep_ev rf y
  rw [hy] at hu
  obtain ⟨hcs, hone⟩ := rep_cells hu hc
  obtain ⟨xs, cur, h4, hheap, hcap, hcm, hsz, htake, h5⟩ := own_cells ok he.1 hp
  obtain ⟨g1, g2, g3⟩ := h4.get i r hr
  have hxl := h4.length
  have hi : i < rows.length := (List.getElem?_eq_some_iff.1 hr).1
  have hvl : (A.eval y).cells.toList.length = n := hcs.length.trans hn
  have hxl2 : rows.length * sz ≤ cur.toList.length := by rw [Array.length_toList (xs := cur), hsz]; exact Nat.mul_le_mul_right _ hcap
  have hcur : cur.toList = xs ++ cur.toList.drop (rows.length * sz) := by rw [← htake]; exact (List.take_append_drop _ _).symm
  have hfit : off + n ≤ sz := by omega
  have hst := run_storeCells_at P gb (i * sz + off) e (A.eval y).cells.toList 0 cur c.w hheap (by rw [hvl]; have := Array.length_toList (xs := cur); omega) hone
  simp only [Nat.add_zero] at hst
  have hnew : ((cur.toList.take (i * sz + off) ++ (A.eval y).cells.toList ++ cur.toList.drop (i * sz + off + (A.eval y).cells.toList.length)).take (rows.length * sz)) =
      xs.take (i * sz) ++ (((xs.drop (i * sz)).take sz).take off ++ (A.eval y).cells.toList ++ ((xs.drop (i * sz)).take sz).drop (off + n)) ++ xs.drop (i * sz + sz) := by
    have h6 := splice_eq xs (A.eval y).cells.toList (i * sz) off sz (by omega) g2
    rw [hvl] at h6 ⊢
    rw [← h6]
    have h7 := take_splice xs (A.eval y).cells.toList (cur.toList.drop (rows.length * sz)) (i * sz + off) (by omega)
    rw [← hcur, hvl, hxl] at h7
    exact h7
  have hrow : Reps c (some es) r' (((xs.drop (i * sz)).take sz).take off ++ (A.eval y).cells.toList ++ ((xs.drop (i * sz)).take sz).drop (off + n)) := by
    rw [← hr']
    exact ((g3.take off).append hcs).append (g3.drop (off + n))
  have hr'l : r'.length = sz := by
    rw [← hr']
    simp only [List.length_append, List.length_take, List.length_drop]
    omega
  have hrows := h4.set i r' _ hi hr'l hrow (fun u hu => by
    rcases List.mem_append.1 hu with hu | hu
    · rcases List.mem_append.1 hu with hu | hu
      · exact h4.one u (List.mem_of_mem_drop (List.mem_of_mem_take (List.mem_of_mem_take hu)))
      · exact hone u hu
    · exact h4.one u (List.mem_of_mem_drop (List.mem_of_mem_take (List.mem_of_mem_drop hu))))
  have hgr : c.w.grownBy (c.w.setRow gb (cur.toList.take (i * sz + off) ++ (A.eval y).cells.toList ++ cur.toList.drop (i * sz + off + (A.eval y).cells.toList.length)).toArray) (ownVal (c.phi id) rows.length).ownBlock := by
    rw [hp]
    exact ⟨rfl, rfl, rfl, by simp, fun k _ hk => setRow_other c.w gb k _ (fun e => hk (by rw [own_block_some, e]))⟩
  have hown : (c.w.setRow gb (cur.toList.take (i * sz + off) ++ (A.eval y).cells.toList ++ cur.toList.drop (i * sz + off + (A.eval y).cells.toList.length)).toArray).ownsRow 0 e sz (ownVal (some (gb, cap)) (rows.set i r').length) (rows.set i r').length _ :=
    ⟨by rw [hrows.length], .inr ⟨gb, cap, _, by rw [List.length_set]; rfl, Nat.zero_le _, setRow_heap c.w gb cur _ e _ hheap, by rw [List.length_set]; exact hcap, hcm, by
      simp only [List.size_toArray, List.length_append, List.length_take, List.length_drop, hvl]
      have := Array.length_toList (xs := cur)
      rw [← hsz, ← this]
      omega, by rw [List.length_set]; exact hnew⟩⟩
  have hm := (ok.ent id _ he.1).2.1
  refine ⟨c.turn _ id (some (gb, cap)), setAt es id (.row s e sz (rows.set i r')), ?_, ext_turn ok he.1 hgr (.inr ⟨rfl, by simp, hp.symm⟩), ok_turn ok he.1 hgr (.inr ⟨rfl, by simp, hp.symm⟩) (.inl (by rw [hp]; rfl)) (by simpa using hm) hrows hown, ?_⟩
  · show (execOp A.eval _).run P c.w = .ok .skip (c.w.setRow gb _)
    have hcs : (A.eval y).cells.size = n := by rw [← Array.length_toList]; exact hvl
    simp only [execOp, hv, Instr.storeAt, Instr.sureAddr, storeVar, Sem.run_bind, Sem.run_pure, Result.andThen_ok, run_sizeOf ht, hcs, ne_eq, not_true_eq_false, if_false, hst]
  · rw [he.2]
    exact k
end
end Go.Proofs.YtfdgbghlanbddaaDoor.Av
