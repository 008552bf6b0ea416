import Derived.Calls
import Derived.Below
import Derived.Laws.Sem
import Derived.Maps.AppendAt
import Derived.Tactics
import Derived.Laws.StructEq
import Derived.Laws.OwnMore
import Derived.Laws.BytesArg
import Derived.ChangeKeysEq
import Derived.Orders
import Derived.Test.YtfdgbghlanbddaaDoorProg
import Derived.KernelRfl
set_option linter.unusedVariables false
set_option linter.unusedSimpArgs false
namespace Go.Proofs.YtfdgbghlanbddaaDoor.Av
section
open Go.RowKit

/-- What is known of a value: memory is not in sight. `list`: a slice whose elements are never written again; `own`: a slice over a row that the call may write; `ptr`, `fptr`: places in such rows. -/
inductive AV where
 | any
 | bool (b : Bool)
 | int (k : IntKind) (n : Int)
 | str (s : ByteArray)
 | raw (v : Value)
 | nil
 | agg (l : List AV)
 | tup (l : List AV)
 | list (sz : Nat) (rows : List (List AV))
 | own (id s : Nat)
 | ptr (id s i off : Nat)
 | fptr (sz : Nat) (rows : List (List AV)) (i off : Nat)
 | mp (id s : Nat)
 | tail (id s k sz : Nat)
 | fn (f : Fn) (first captured : List AV)

/-- A row that the call may write: its stamp, the elements' type, how many cells each has, the elements. -/
inductive Ent where
 | dead
 | row (s e sz : Nat) (rows : List (List AV))
 | mp (s : Nat) (kvs : List (ByteArray × Int))

/-- The rows are kept al' a stack: a row's number is its place from the bottom on. -/
def at_ : List Ent → Nat → Option Ent
 | [], _ => none
 | x :: t, i => if i = t.length then some x else at_ t i
theorem at_hit (x : Ent) (t : List Ent) : at_ (x :: t) t.length = some x := by simp [at_]
theorem at_lt : ∀ {es : List Ent} {i : Nat} {x : Ent}, at_ es i = some x → i < es.length
 | y :: t, i, x, h => by
  simp only [at_] at h
  split at h
  ·simp_all
  ·have := at_lt h; simp; omega
theorem at_miss {t : List Ent} {i : Nat} {x : Ent} (y : Ent) (h : at_ t i = some x) : at_ (y :: t) i = some x := by
 have := at_lt h
 simp only [at_]
 rw [if_neg (by omega)]
 exact h
/-- The stack with entry i replaced. -/
def setAt : List Ent → Nat → Ent → List Ent
 | [], _, _ => []
 | x :: t, i, y => if i = t.length then y :: t else x :: setAt t i y
theorem setAt_hit (x y : Ent) (t : List Ent) : setAt (x :: t) t.length y = y :: t := by simp [setAt]
theorem setAt_miss {t : List Ent} {i : Nat} (x y : Ent) (h : i < t.length) : setAt (x :: t) i y = x :: setAt t i y := by
 simp only [setAt]
 rw [if_neg (by omega)]
theorem setAt_len : ∀ (es : List Ent) (i : Nat) (y : Ent), (setAt es i y).length = es.length
 | [], _, _ => rfl
 | x :: t, i, y => by
  simp only [setAt]
  split
  ·rfl
  ·simp [setAt_len t i y]
theorem at_setAt : ∀ (es : List Ent) (i j : Nat) (y : Ent), at_ (setAt es i y) j = if j = i ∧ i < es.length then some y else at_ es j
 | [], i, j, y => by simp [setAt, at_]
 | x :: t, i, j, y => by
  simp only [setAt]
  split
  ·rename_i h
   subst h
   simp only [at_, List.length_cons]
   by_cases hj : j = t.length
   ·simp [hj]
   ·rw [if_neg hj, if_neg (by omega), if_neg hj]
  ·rename_i h
   simp only [at_, setAt_len, List.length_cons, at_setAt t i j y]
   by_cases hj : j = t.length
   ·rw [if_pos hj, if_neg (by omega), if_pos hj]
   ·rw [if_neg hj]
    by_cases hi : j = i ∧ i < t.length
    ·rw [if_pos hi, if_pos (by omega)]
    ·rw [if_neg hi, if_neg (by omega), if_neg hj]
theorem at_setAt_same {es : List Ent} {i : Nat} {x : Ent} (y : Ent) (h : at_ es i = some x) : at_ (setAt es i y) i = some y := by
 rw [at_setAt, if_pos ⟨rfl, at_lt h⟩]
theorem at_setAt_ne {es : List Ent} {i j : Nat} (y : Ent) (h : j ≠ i) : at_ (setAt es i y) j = at_ es j := by
 rw [at_setAt, if_neg (fun e => h e.1)]

/-- The world, where the rows lie, the next stamp, which blocks are never written again. -/
structure Core where
 w : World
 phi : Nat → Option (Nat × Nat)
 now : Nat
 fro : Nat → Prop

def ownVal : Option (Nat × Nat) → Nat → Value
 | none, _ => .slice none 0 0
 | some (g, cap), n => .slice (some ⟨g, 0, none⟩) n cap

def most : Nat := 140737488355328

mutual
def Rep (c : Core) : Option (List Ent) → AV → Value → Prop
 | _, .any, _ => True
 | _, .bool b, v => v = .bool b
 | _, .int k n, v => v = .int k n
 | _, .str s, v => v = .string s
 | _, .raw u, v => v = u
 | _, .nil, v => v = .slice none 0 0
 | es, .agg l, v => ∃ cs, v = .agg cs ∧ Reps c es l cs.toList ∧ ∀ x ∈ cs.toList, x.oneCell' = true
 | es, .tup l, v => ∃ cs, v = .tuple cs ∧ Reps c es l cs.toList
 | _, .list sz rows, v => ∃ A cap vs, v = .slice A rows.length cap ∧ rows.length ≤ cap ∧ rows.length ≤ most ∧ RepRows c none sz rows vs ∧
   (vs ≠ [] → ∃ b o, A = some ⟨b, o, none⟩ ∧ c.fro b ∧ ∀ j, j < vs.length → c.w.cell? ⟨b, o + j, none⟩ = vs[j]?)
 | m, .own id s, v => ∃ es, m = some es ∧ (∃ A n k, v = .slice A n k) ∧ s < c.now ∧ ∀ e sz rows, at_ es id = some (.row s e sz rows) → v = ownVal (c.phi id) rows.length
 | m, .ptr id s i off, v => ∃ es, m = some es ∧ (∃ p, v = .pointer (some p)) ∧ s < c.now ∧ ∀ e sz rows, at_ es id = some (.row s e sz rows) → ∃ g cap, c.phi id = some (g, cap) ∧ v = .pointer (some ⟨g, i * sz + off, none⟩)
 | _, .fptr sz rows i off, v => ∃ b o vs, v = .pointer (some ⟨b, o + (i * sz + off), none⟩) ∧ RepRows c none sz rows vs ∧ c.fro b ∧ ∀ j, j < vs.length → c.w.cell? ⟨b, o + j, none⟩ = vs[j]?
 | m, .mp id s, v => ∃ es, m = some es ∧ (∃ p, v = .map p) ∧ s < c.now ∧ ∀ kvs, at_ es id = some (.mp s kvs) → ∃ g cap, c.phi id = some (g, cap) ∧ v = .map (some g)
 | m, .tail id s k sz, v => ∃ es, m = some es ∧ (∃ A n c, v = .slice A n c) ∧ s < c.now ∧ ∀ e rows, at_ es id = some (.row s e sz rows) → k ≤ rows.length ∧ ∃ A cp, v = .slice A (rows.length - k) cp ∧ (k < rows.length → ∃ g cap, c.phi id = some (g, cap) ∧ A = some ⟨g, k * sz, none⟩)
 | es, .fn f l1 l2, v => ∃ fs cs, v = .func f fs cs ∧ Reps c es l1 fs.toList ∧ Reps c es l2 cs.toList
def Reps (c : Core) : Option (List Ent) → List AV → List Value → Prop
 | _, [], vs => vs = []
 | es, a :: al', vs => ∃ v vs', vs = v :: vs' ∧ Rep c es a v ∧ Reps c es al' vs'
def RepRows (c : Core) : Option (List Ent) → Nat → List (List AV) → List Value → Prop
 | _, _, [], vs => vs = []
 | es, sz, r :: rs, vs => ∃ v1 v2, vs = v1 ++ v2 ∧ r.length = sz ∧ Reps c es r v1 ∧ (∀ x ∈ v1, x.oneCell' = true) ∧ RepRows c es sz rs v2
end

structure Ext (c : Core) (es : List Ent) (c' : Core) (es' : List Ent) : Prop where
 now : c.now ≤ c'.now
 drawn : c.w.drawn ≤ c'.w.drawn
 fro : ∀ b, c.fro b → c'.fro b ∧ c'.w.heap[b]? = c.w.heap[b]?
 ents : ∀ id s e sz rows', at_ es' id = some (.row s e sz rows') → s < c.now → ∃ rows, at_ es id = some (.row s e sz rows) ∧ rows.length = rows'.length ∧ c'.phi id = c.phi id
 maps : ∀ id s kvs', at_ es' id = some (.mp s kvs') → s < c.now → ∃ kvs, at_ es id = some (.mp s kvs) ∧ c'.phi id = c.phi id

theorem Ext.refl (c : Core) (es : List Ent) : Ext c es c es :=
 ⟨Nat.le_refl _, Nat.le_refl _, fun _ h => ⟨h, rfl⟩, fun _ _ _ _ rows h _ => ⟨rows, h, rfl, rfl⟩, fun _ _ kvs h _ => ⟨kvs, h, rfl⟩⟩
theorem Ext.trans {c1 c2 c3 : Core} {e1 e2 e3 : List Ent} (h : Ext c1 e1 c2 e2) (k : Ext c2 e2 c3 e3) : Ext c1 e1 c3 e3 := by
 refine ⟨Nat.le_trans h.now k.now, Nat.le_trans h.drawn k.drawn, fun b hb => ?_, fun id s e sz rows' h3 hs => ?_, fun id s kvs' h3 hs => ?_⟩
 ·obtain ⟨h1, h2⟩ := h.fro b hb
  obtain ⟨k1, k2⟩ := k.fro b h1
  exact ⟨k1, k2.trans h2⟩
 ·obtain ⟨r2, h2, l2, p2⟩ := k.ents id s e sz rows' h3 (Nat.lt_of_lt_of_le hs h.now)
  obtain ⟨r1, h1, l1, p1⟩ := h.ents id s e sz r2 h2 hs
  exact ⟨r1, h1, l1.trans l2, p2.trans p1⟩
 ·obtain ⟨r2, h2, p2⟩ := k.maps id s kvs' h3 (Nat.lt_of_lt_of_le hs h.now)
  obtain ⟨r1, h1, p1⟩ := h.maps id s r2 h2 hs
  exact ⟨r1, h1, p2.trans p1⟩
/-- The same, of what is told by rows (some) or of what is told by lists alone (none). -/
def ExtM (c : Core) : Option (List Ent) → Core → Option (List Ent) → Prop
 | some es, c', some es' => Ext c es c' es'
 | none, c', _ => c.now ≤ c'.now ∧ ∀ b, c.fro b → c'.fro b ∧ c'.w.heap[b]? = c.w.heap[b]?
 | some _, _, none => False
theorem ExtM.nil {c c' : Core} : ∀ {m m' : Option (List Ent)}, ExtM c m c' m' → ExtM c none c' none
 | some _, some _, h => ⟨h.now, h.fro⟩
 | none, _, h => h
theorem ExtM.fro {c c' : Core} {m m' : Option (List Ent)} (h : ExtM c m c' m') : ∀ b, c.fro b → c'.fro b ∧ c'.w.heap[b]? = c.w.heap[b]? := h.nil.2
theorem ExtM.cell {c c' : Core} {es es' : Option (List Ent)} (h : ExtM c es c' es') {b o : Nat} (hb : c.fro b) : c'.w.cell? ⟨b, o, none⟩ = c.w.cell? ⟨b, o, none⟩ := by
 unfold World.cell?
 simp only [(h.fro b hb).2]

mutual
theorem Rep.ext {c c' : Core} : ∀ (a : AV) {es es' : Option (List Ent)} {v : Value}, ExtM c es c' es' → Rep c es a v → Rep c' es' a v
 | .any, _, _, _, _, _ => trivial
 | .bool _, _, _, _, _, h => h
 | .int _ _, _, _, _, _, h => h
 | .str _, _, _, _, _, h => h
 | .raw _, _, _, _, _, h => h
 | .nil, _, _, _, _, h => h
 | .agg l, _, _, _, x, h => by
  simp only [Rep] at h ⊢
  obtain ⟨cs, rfl, h1, h2⟩ := h
  exact ⟨cs, rfl, Reps.ext l x h1, h2⟩
 | .tup l, _, _, _, x, h => by
  simp only [Rep] at h ⊢
  obtain ⟨cs, rfl, h1⟩ := h
  exact ⟨cs, rfl, Reps.ext l x h1⟩
 | .list sz rows, _, _, _, x, h => by
  simp only [Rep] at h ⊢
  obtain ⟨A, cap, vs, rfl, h1, hm, h2, h3⟩ := h
  refine ⟨A, cap, vs, rfl, h1, hm, RepRows.ext rows x.nil h2, fun hv => ?_⟩
  obtain ⟨b, o, rfl, hb, hc⟩ := h3 hv
  exact ⟨b, o, rfl, (x.fro b hb).1, fun j hj => (x.cell hb).trans (hc j hj)⟩
 | .own id s, m, m', _, x, h => by
  simp only [Rep] at h ⊢
  obtain ⟨es, rfl, hsh, h⟩ := h
  match m', x with
  | some es', x =>
   refine ⟨es', rfl, hsh, Nat.lt_of_lt_of_le h.1 x.now, fun e sz rows he => ?_⟩
   obtain ⟨r1, h1, l1, p1⟩ := x.ents _ _ _ _ _ he h.1
   rw [h.2 _ _ _ h1, p1, l1]
 | .ptr id s i off, m, m', _, x, h => by
  simp only [Rep] at h ⊢
  obtain ⟨es, rfl, hsh, h⟩ := h
  match m', x with
  | some es', x =>
   refine ⟨es', rfl, hsh, Nat.lt_of_lt_of_le h.1 x.now, fun e sz rows he => ?_⟩
   obtain ⟨r1, h1, l1, p1⟩ := x.ents _ _ _ _ _ he h.1
   rw [p1]
   exact h.2 _ _ _ h1
 | .fptr sz rows i off, _, _, _, x, h => by
  simp only [Rep] at h ⊢
  obtain ⟨b, o, vs, rfl, h2, hb, hc⟩ := h
  exact ⟨b, o, vs, rfl, RepRows.ext rows x.nil h2, (x.fro b hb).1, fun j hj => (x.cell hb).trans (hc j hj)⟩
 | .mp id s, m, m', _, x, h => by
  simp only [Rep] at h ⊢
  obtain ⟨es, rfl, hsh, h⟩ := h
  match m', x with
  | some es', x =>
   refine ⟨es', rfl, hsh, Nat.lt_of_lt_of_le h.1 x.now, fun kvs he => ?_⟩
   obtain ⟨r1, h1, p1⟩ := x.maps _ _ _ he h.1
   rw [p1]
   exact h.2 _ h1
 | .tail id s k sz, m, m', _, x, h => by
  simp only [Rep] at h ⊢
  obtain ⟨es, rfl, hsh, h⟩ := h
  match m', x with
  | some es', x =>
   refine ⟨es', rfl, hsh, Nat.lt_of_lt_of_le h.1 x.now, fun e rows he => ?_⟩
   obtain ⟨r1, h1, l1, p1⟩ := x.ents _ _ _ _ _ he h.1
   rw [p1, ← l1]
   exact h.2 _ _ h1
 | .fn f l1 l2, _, _, _, x, h => by
  simp only [Rep] at h ⊢
  obtain ⟨fs, cs, rfl, h1, h2⟩ := h
  exact ⟨fs, cs, rfl, Reps.ext l1 x h1, Reps.ext l2 x h2⟩
theorem Reps.ext {c c' : Core} : ∀ (l : List AV) {es es' : Option (List Ent)} {vs : List Value}, ExtM c es c' es' → Reps c es l vs → Reps c' es' l vs
 | [], _, _, _, _, h => h
 | a :: al', _, _, _, x, h => by
  simp only [Reps] at h ⊢
  obtain ⟨v, vs', rfl, h1, h2⟩ := h
  exact ⟨v, vs', rfl, Rep.ext a x h1, Reps.ext al' x h2⟩
theorem RepRows.ext {c c' : Core} : ∀ (l : List (List AV)) {es es' : Option (List Ent)} {sz : Nat} {vs : List Value}, ExtM c es c' es' → RepRows c es sz l vs → RepRows c' es' sz l vs
 | [], _, _, _, _, _, h => h
 | r :: rs, _, _, _, _, x, h => by
  simp only [RepRows] at h ⊢
  obtain ⟨v1, v2, rfl, hl, h1, ho, h2⟩ := h
  exact ⟨v1, v2, rfl, hl, Reps.ext r x h1, ho, RepRows.ext rs x h2⟩
end

/-- What is told by lists alone is told whatever the rows. -/
theorem Rep.up {c : Core} {a : AV} {v : Value} (h : Rep c none a v) (m : Option (List Ent)) : Rep c m a v :=
 Rep.ext a (es := none) (show ExtM c none c m from ⟨Nat.le_refl _, fun _ hb => ⟨hb, rfl⟩⟩) h
theorem Reps.up {c : Core} {l : List AV} {v : List Value} (h : Reps c none l v) (m : Option (List Ent)) : Reps c m l v :=
 Reps.ext l (show ExtM c none c m from ⟨Nat.le_refl _, fun _ hb => ⟨hb, rfl⟩⟩) h
mutual
/-- No row of one's own is in it. -/
def clean : AV → Bool
 | .own _ _ => false
 | .ptr _ _ _ _ => false
 | .mp _ _ => false
 | .tail _ _ _ _ => false
 | .agg l => cleans l
 | .tup l => cleans l
 | .fn _ l1 l2 => cleans l1 && cleans l2
 | _ => true
def cleans : List AV → Bool
 | [] => true
 | a :: al' => clean a && cleans al'
end
mutual
theorem Rep.down {c : Core} {es : Option (List Ent)} : ∀ (a : AV) {v : Value}, clean a = true → Rep c es a v → Rep c none a v
 | .any, _, _, _ => by simp only [Rep]
 | .bool _, _, _, h => by simp only [Rep] at h ⊢; exact h
 | .int _ _, _, _, h => by simp only [Rep] at h ⊢; exact h
 | .str _, _, _, h => by simp only [Rep] at h ⊢; exact h
 | .raw _, _, _, h => by simp only [Rep] at h ⊢; exact h
 | .nil, _, _, h => by simp only [Rep] at h ⊢; exact h
 | .agg l, _, p, h => by
  simp only [Rep] at h ⊢
  obtain ⟨cs, rfl, h1, h2⟩ := h
  exact ⟨cs, rfl, Reps.down l (by simpa [clean] using p) h1, h2⟩
 | .tup l, _, p, h => by
  simp only [Rep] at h ⊢
  obtain ⟨cs, rfl, h1⟩ := h
  exact ⟨cs, rfl, Reps.down l (by simpa [clean] using p) h1⟩
 | .list _ _, _, _, h => by simp only [Rep] at h ⊢; exact h
 | .own _ _, _, p, _ => by simp [clean] at p
 | .ptr _ _ _ _, _, p, _ => by simp [clean] at p
 | .mp _ _, _, p, _ => by simp [clean] at p
 | .tail _ _ _ _, _, p, _ => by simp [clean] at p
 | .fptr _ _ _ _, _, _, h => by simp only [Rep] at h ⊢; exact h
 | .fn f l1 l2, _, p, h => by
  simp only [Rep] at h ⊢
  obtain ⟨fs, cs, rfl, h1, h2⟩ := h
  simp only [clean, Bool.and_eq_true] at p
  exact ⟨fs, cs, rfl, Reps.down l1 p.1 h1, Reps.down l2 p.2 h2⟩
theorem Reps.down {c : Core} {es : Option (List Ent)} : ∀ (l : List AV) {vs : List Value}, cleans l = true → Reps c es l vs → Reps c none l vs
 | [], _, _, h => by simp only [Reps] at h ⊢; exact h
 | a :: al', _, p, h => by
  simp only [Reps] at h ⊢
  simp only [cleans, Bool.and_eq_true] at p
  obtain ⟨v, vs', rfl, h1, h2⟩ := h
  exact ⟨v, vs', rfl, Rep.down a p.1 h1, Reps.down al' p.2 h2⟩
end
theorem RepRows.down {c : Core} {es : Option (List Ent)} : ∀ (l : List (List AV)) {sz : Nat} {vs : List Value}, l.all cleans = true → RepRows c es sz l vs → RepRows c none sz l vs
 | [], _, _, _, h => by simp only [RepRows] at h ⊢; exact h
 | r :: rs, _, _, p, h => by
  simp only [RepRows] at h ⊢
  simp only [List.all_cons, Bool.and_eq_true] at p
  obtain ⟨v1, v2, rfl, hl, h1, ho, h2⟩ := h
  exact ⟨v1, v2, rfl, hl, Reps.down r p.1 h1, ho, RepRows.down rs p.2 h2⟩

/-- A map from texts to numbers, in the order of their coming. -/
def MapAt (w : World) (g : Nat) (kvs : List (ByteArray × Int)) : Prop := ∃ (ent : Array MapEntry) (clock : Nat), w.heap[g]? = some (.map ent clock) ∧ ent.toList.map (fun e => (e.key, e.val)) = kvs.map fun p => (Value.string p.1, Value.int .i64 p.2)
/-- A row's entry holds of the world. -/
def EntOk (c : Core) (es : List Ent) (id : Nat) : Ent → Prop
 | .dead => True
 | .mp s kvs => s < c.now ∧ (∀ g cap, c.phi id = some (g, cap) → ¬ c.fro g) ∧ ∃ g cap, c.phi id = some (g, cap) ∧ MapAt c.w g kvs
 | .row s e sz rows => s < c.now ∧ rows.length ≤ most ∧ (∀ g cap, c.phi id = some (g, cap) → ¬ c.fro g) ∧
   ∃ xs, RepRows c (some es) sz rows xs ∧ c.w.ownsRow 0 e sz (ownVal (c.phi id) rows.length) rows.length xs

/-- All that is known of the world, w0 being the world at the beginning. -/
structure Ok (w0 : World) (c : Core) (es : List Ent) : Prop where
 below : Below w0.heap.size w0 c.w
 old : ∀ b, b < w0.heap.size → c.fro b
 lt : ∀ b, c.fro b → b < c.w.heap.size
 ent : ∀ id x, at_ es id = some x → EntOk c es id x
 inj : ∀ i j s e sz rows s' e' sz' rows' g cap cap', at_ es i = some (.row s e sz rows) → at_ es j = some (.row s' e' sz' rows') → c.phi i = some (g, cap) → c.phi j = some (g, cap') → i = j
 injm : ∀ i j s kvs s' kvs' g cap cap', at_ es i = some (.mp s kvs) → at_ es j = some (.mp s' kvs') → c.phi i = some (g, cap) → c.phi j = some (g, cap') → i = j

/-- What a frame's slots are known to hold. -/
def Frame := Nat → AV
def upd (f : Frame) (t : Nat) (a : AV) : Frame := fun u => if u = t then a else f u
theorem upd_same (f : Frame) (t : Nat) (a : AV) : upd f t a t = a := by simp [upd]
theorem upd_ne (f : Frame) {t u : Nat} (a : AV) (h : u ≠ t) : upd f t a u = f u := by simp [upd, h]
def put (f : Frame) (d : Option Nat) (a : AV) : Frame := match d with | some t => upd f t a | none => f

/-- What the frame's N slots hold. -/
structure RepF (N : Nat) (c : Core) (es : List Ent) (f : Frame) (A : Act) : Prop where
 size : A.tmps.size = N
 rep : ∀ t, Rep c (some es) (f t) (A.tmps.getD t undef)
 defers : A.defers = []
theorem RepF.ext {N : Nat} {c c' : Core} {es es' : List Ent} {f : Frame} {A : Act} (x : Ext c es c' es') (h : RepF N c es f A) : RepF N c' es' f A :=
 ⟨h.size, fun t => Rep.ext (es := some es) (es' := some es') _ x (h.rep t), h.defers⟩
/-- A slot that may be written. -/
def dok (N : Nat) : Option Nat → Bool
 | some d => Nat.blt d N
 | none => true
theorem RepF.put {N : Nat} {c : Core} {es : List Ent} {f : Frame} {A : Act} (h : RepF N c es f A) {d : Option Nat} (hd : dok N d = true) {a : AV} {v : Value} (hv : Rep c (some es) a v) : RepF N c es (put f d a) (A.put d v) := by
 cases d with
 | none => exact h
 | some t =>
  refine ⟨by simp [Act.put, h.size], fun u => ?_, h.defers⟩
  have ht : t < N := by simpa [dok] using hd
  simp only [Act.put, Av.put, upd]
  by_cases e : u = t
  ·subst e
   rw [if_pos rfl]
   simp [h.size, ht]
   exact hv
  ·rw [if_neg e]
   have := h.rep u
   simpa [Array.getElem?_setIfInBounds_ne (Ne.symm e)] using this

def ofConst : Value → AV
 | .bool b => .bool b
 | .int k n => .int k n
 | .string s => .str s
 | .slice none 0 0 => .nil
 | v => .raw v
theorem rep_const (c : Core) (es : Option (List Ent)) (v : Value) : Rep c es (ofConst v) v := by
 unfold ofConst
 split <;> simp only [Rep]
def ev (f : Frame) : Operand → AV
 | .tmp t => f t
 | .const v => ofConst v
 | .global g => .raw (.pointer (some ⟨g, 0, none⟩))
 | .func f => .fn (.func f) [] []
theorem rep_ev {N : Nat} {c : Core} {es : List Ent} {f : Frame} {A : Act} (h : RepF N c es f A) : ∀ x, Rep c (some es) (ev f x) (A.eval x)
 | .tmp t => h.rep t
 | .const v => rep_const c _ v
 | .global g => by simp only [ev, Act.eval, Rep]
 | .func g => by simp only [ev, Act.eval, Rep, Reps]; exact ⟨#[], #[], rfl, rfl, rfl⟩
end
section
open Go.RowKit

theorem Reps.length {c : Core} : ∀ {l : List AV} {es : Option (List Ent)} {vs : List Value}, Reps c es l vs → vs.length = l.length
 | [], _, vs, h => by simp only [Reps] at h; simp [h]
 | a :: al', _, vs, h => by
  simp only [Reps] at h
  obtain ⟨v, vs', rfl, _, h2⟩ := h
  simp [h2.length]
theorem Reps.get {c : Core} : ∀ {l : List AV} {es : Option (List Ent)} {vs : List Value}, Reps c es l vs → ∀ j, Rep c es (l.getD j .any) (vs.getD j undef)
 | [], _, vs, h, j => by simp only [Reps] at h; subst h; simp [Rep]
 | a :: al', _, vs, h, j => by
  simp only [Reps] at h
  obtain ⟨v, vs', rfl, h1, h2⟩ := h
  cases j with
  | zero => exact h1
  | succ j => exact h2.get j
theorem Reps.append {c : Core} : ∀ {l l' : List AV} {es : Option (List Ent)} {vs vs' : List Value}, Reps c es l vs → Reps c es l' vs' → Reps c es (l ++ l') (vs ++ vs')
 | [], _, _, vs, _, h, h' => by simp only [Reps] at h; subst h; exact h'
 | a :: al', _, _, vs, _, h, h' => by
  simp only [Reps] at h
  obtain ⟨v, vs', rfl, h1, h2⟩ := h
  exact ⟨v, _, rfl, h1, h2.append h'⟩
theorem Reps.take {c : Core} : ∀ {l : List AV} {es : Option (List Ent)} {vs : List Value}, Reps c es l vs → ∀ n, Reps c es (l.take n) (vs.take n)
 | [], _, vs, h, n => by simp only [Reps] at h; subst h; simp [Reps]
 | a :: al', _, vs, h, n => by
  simp only [Reps] at h
  obtain ⟨v, vs', rfl, h1, h2⟩ := h
  cases n with
  | zero => simp [Reps]
  | succ n => exact ⟨v, _, rfl, h1, h2.take n⟩
theorem Reps.drop {c : Core} : ∀ {l : List AV} {es : Option (List Ent)} {vs : List Value}, Reps c es l vs → ∀ n, Reps c es (l.drop n) (vs.drop n)
 | [], _, vs, h, n => by simp only [Reps] at h; subst h; simp [Reps]
 | a :: al', _, vs, h, n => by
  simp only [Reps] at h
  obtain ⟨v, vs', rfl, h1, h2⟩ := h
  cases n with
  | zero => exact ⟨v, _, rfl, h1, h2⟩
  | succ n => exact h2.drop n

theorem RepRows.length {c : Core} : ∀ {rows : List (List AV)} {es : Option (List Ent)} {sz : Nat} {vs : List Value}, RepRows c es sz rows vs → vs.length = rows.length * sz
 | [], _, _, vs, h => by simp only [RepRows] at h; simp [h]
 | r :: rs, _, sz, vs, h => by
  simp only [RepRows] at h
  obtain ⟨v1, v2, rfl, hl, h1, _, h2⟩ := h
  rw [List.length_append, h2.length, h1.length, hl, List.length_cons, Nat.succ_mul, Nat.add_comm]
theorem RepRows.one {c : Core} : ∀ {rows : List (List AV)} {es : Option (List Ent)} {sz : Nat} {vs : List Value}, RepRows c es sz rows vs → ∀ x ∈ vs, x.oneCell' = true
 | [], _, _, vs, h => by simp only [RepRows] at h; subst h; simp
 | r :: rs, _, sz, vs, h => by
  simp only [RepRows] at h
  obtain ⟨v1, v2, rfl, hl, h1, ho, h2⟩ := h
  intro x hx
  rcases List.mem_append.1 hx with hx | hx
  ·exact ho x hx
  ·exact h2.one x hx
theorem RepRows.get {c : Core} : ∀ {rows : List (List AV)} {es : Option (List Ent)} {sz : Nat} {vs : List Value}, RepRows c es sz rows vs → ∀ i r, rows[i]? = some r →
  r.length = sz ∧ i * sz + sz ≤ vs.length ∧ Reps c es r ((vs.drop (i * sz)).take sz)
 | [], _, _, vs, h, i, r, hr => by simp at hr
 | q :: rs, _, sz, vs, h, i, r, hr => by
  simp only [RepRows] at h
  obtain ⟨v1, v2, rfl, hl, h1, ho, h2⟩ := h
  have hv1 : v1.length = sz := h1.length.trans hl
  cases i with
  | zero =>
   simp at hr
   subst hr
   refine ⟨hl, by simp [hv1], ?_⟩
   simp only [Nat.zero_mul, List.drop_zero]
   rw [List.take_left' hv1]
   exact h1
  | succ i =>
   obtain ⟨a, b, d⟩ := h2.get i r (by simpa using hr)
   refine ⟨a, by rw [List.length_append, Nat.succ_mul, hv1]; omega, ?_⟩
   rw [List.drop_append, hv1, List.drop_of_length_le (by rw [hv1, Nat.succ_mul]; omega), List.nil_append, show (i + 1) * sz - sz = i * sz by rw [Nat.succ_mul]; omega]
   exact d
theorem RepRows.append {c : Core} : ∀ {rows rows' : List (List AV)} {es : Option (List Ent)} {sz : Nat} {vs vs' : List Value}, RepRows c es sz rows vs → RepRows c es sz rows' vs' → RepRows c es sz (rows ++ rows') (vs ++ vs')
 | [], _, _, _, vs, _, h, h' => by simp only [RepRows] at h; subst h; exact h'
 | r :: rs, _, _, _, vs, _, h, h' => by
  simp only [RepRows] at h
  obtain ⟨v1, v2, rfl, hl, h1, ho, h2⟩ := h
  exact ⟨v1, v2 ++ _, by simp, hl, h1, ho, h2.append h'⟩
theorem RepRows.single {c : Core} {r : List AV} {es : Option (List Ent)} {vs : List Value} (h : Reps c es r vs) (ho : ∀ x ∈ vs, x.oneCell' = true) {sz : Nat} (hs : r.length = sz) : RepRows c es sz [r] vs :=
 ⟨vs, [], by simp, hs, h, ho, rfl⟩
theorem RepRows.set {c : Core} : ∀ {rows : List (List AV)} {es : Option (List Ent)} {sz : Nat} {vs : List Value}, RepRows c es sz rows vs → ∀ i (r' : List AV) (v' : List Value), i < rows.length → r'.length = sz → Reps c es r' v' → (∀ x ∈ v', x.oneCell' = true) →
  RepRows c es sz (rows.set i r') (vs.take (i * sz) ++ v' ++ vs.drop (i * sz + sz))
 | [], _, _, vs, h, i, r', v', hi, _, _, _ => by simp at hi
 | q :: rs, _, sz, vs, h, i, r', v', hi, hl', hr', ho' => by
  simp only [RepRows] at h
  obtain ⟨v1, v2, rfl, hl, h1, ho, h2⟩ := h
  have hv1 : v1.length = sz := h1.length.trans hl
  cases i with
  | zero =>
   refine ⟨v', v2, ?_, hl', hr', ho', h2⟩
   simp only [Nat.zero_mul, List.take_zero, List.nil_append, Nat.zero_add]
   rw [List.drop_left' hv1]
  | succ i =>
   have ih := h2.set i r' v' (by simpa using hi) hl' hr' ho'
   refine ⟨v1, _, ?_, hl, h1, ho, ih⟩
   rw [List.take_append, List.drop_append, hv1, List.take_of_length_le (by rw [hv1, Nat.succ_mul]; omega), List.drop_of_length_le (by rw [hv1, Nat.succ_mul]; omega)]
   rw [show (i + 1) * sz - sz = i * sz by rw [Nat.succ_mul]; omega, show (i + 1) * sz + sz - sz = i * sz + sz by rw [Nat.succ_mul]; omega]
   simp

theorem own_block_some (g cap n : Nat) : (ownVal (some (g, cap)) n).ownBlock = some g := rfl
/-- What is told of a row, told of a later world. -/
theorem EntOk.ext {c c' : Core} {es es' : List Ent} {id : Nat} {s e sz : Nat} {rows : List (List AV)} (h : EntOk c es id (.row s e sz rows)) (x : Ext c es c' es') (hp : c'.phi id = c.phi id)
  (hf : ∀ g cap, c.phi id = some (g, cap) → ¬ c'.fro g) (ho : ∀ xs, c.w.ownsRow 0 e sz (ownVal (c.phi id) rows.length) rows.length xs → c'.w.ownsRow 0 e sz (ownVal (c.phi id) rows.length) rows.length xs) :
  EntOk c' es' id (.row s e sz rows) := by
 obtain ⟨h1, h2, h3, xs, h4, h5⟩ := h
 refine ⟨Nat.lt_of_lt_of_le h1 x.now, h2, fun g cap hg => hf g cap (hp ▸ hg), xs, RepRows.ext (es := some es) (es' := some es') rows x h4, ?_⟩
 rw [hp]
 exact ho xs h5

theorem EntOk.extm {c c' : Core} {es es' : List Ent} {id s : Nat} {kvs : List (ByteArray × Int)} (h : EntOk c es id (.mp s kvs)) (x : Ext c es c' es') (hp : c'.phi id = c.phi id)
  (hf : ∀ g cap, c.phi id = some (g, cap) → ¬ c'.fro g) (ho : ∀ g cap, c.phi id = some (g, cap) → c'.w.heap[g]? = c.w.heap[g]?) : EntOk c' es' id (.mp s kvs) := by
 obtain ⟨h1, h2, g, cap, h3, ent, clock, h4, h5⟩ := h
 exact ⟨Nat.lt_of_lt_of_le h1 x.now, fun g cap hg => hf g cap (hp ▸ hg), g, cap, hp ▸ h3, ent, clock, (ho g cap h3).trans h4, h5⟩
theorem EntOk.mlt {c : Core} {es : List Ent} {id s g cap : Nat} {kvs : List (ByteArray × Int)} (h : EntOk c es id (.mp s kvs)) (hp : c.phi id = some (g, cap)) : g < c.w.heap.size := by
 obtain ⟨_, _, g2, cap2, h3, ent, clock, h4, _⟩ := h
 rw [hp] at h3
 injection h3 with h3
 injection h3 with h3 _
 subst h3
 exact (Array.getElem?_eq_some_iff.1 h4).1
theorem ownVal_lt {w : World} {e sz n : Nat} {xs : List Value} {g cap : Nat} (h : w.ownsRow 0 e sz (ownVal (some (g, cap)) n) n xs) : g < w.heap.size :=
 (h.lt g rfl).2

/-- A new row. -/
def Core.alloc (c : Core) (es : List Ent) (cells : Array Value) (e cap : Nat) : Core :=
 { w := c.w.alloc (.cells cells e), phi := fun j => if j = es.length then some (c.w.heap.size, cap) else c.phi j, now := c.now + 1, fro := c.fro }
theorem ext_alloc {w0 : World} {c : Core} {es : List Ent} (h : Ok w0 c es) (cells : Array Value) (e sz cap : Nat) (rows : List (List AV)) :
  Ext c es (c.alloc es cells e cap) (.row c.now e sz rows :: es) := by
 refine ⟨Nat.le_succ _, Nat.le_refl _, fun b hb => ⟨hb, heap_alloc_old c.w _ b (h.lt b hb)⟩, fun id s e' sz' rows' hr hs => ?_, fun id s kvs' hr hs => ?_⟩
 ·by_cases hid : id = es.length
  ·subst hid
   rw [at_hit] at hr
   injection hr with hr
   injection hr with hr
   omega
  ·have h2 : at_ es id = some (.row s e' sz' rows') := by
    simp only [at_] at hr
    rwa [if_neg hid] at hr
   refine ⟨rows', h2, rfl, ?_⟩
   simp [Core.alloc, hid]
 ·have hid : id ≠ es.length := by
   rintro rfl
   rw [at_hit] at hr
   cases hr
  have h2 : at_ es id = some (.mp s kvs') := by
   simp only [at_] at hr
   rwa [if_neg hid] at hr
  exact ⟨kvs', h2, by simp [Core.alloc, hid]⟩
theorem ok_alloc {w0 : World} {c : Core} {es : List Ent} (h : Ok w0 c es) (cells : Array Value) (e sz : Nat) (rows : List (List AV)) (hr : RepRows c (some es) sz rows cells.toList)
  (hm : rows.length ≤ most) : Ok w0 (c.alloc es cells e rows.length) (.row c.now e sz rows :: es) := by
 have x := ext_alloc h cells e sz rows.length rows
 have hgr : c.w.grownBy (c.alloc es cells e rows.length).w none := World.grownBy_alloc c.w _ none
 refine ⟨h.below.alloc h.below.size _, h.old, fun b hb => ?_, fun id y hy => ?_, ?_, ?_⟩
 ·have := h.lt b hb
  simp only [Core.alloc, World.size_alloc]
  omega
 ·by_cases hid : id = es.length
  ·subst hid
   rw [at_hit] at hy
   injection hy with hy
   subst hy
   refine ⟨Nat.lt_succ_self _, hm, fun g cap hg hf => ?_, cells.toList, RepRows.ext (es := some es) (es' := some _) rows x hr, ?_⟩
   ·simp only [Core.alloc, if_pos] at hg
    injection hg with hg
    injection hg with hg hc
    have := h.lt g hf
    omega
   ·simp only [Core.alloc, if_pos]
    have hl := hr.length
    refine ⟨hl, .inr ⟨c.w.heap.size, rows.length, cells, rfl, Nat.zero_le _, heap_alloc_new c.w _, Nat.le_refl _, ?_, by simpa using hl, ?_⟩⟩
    ·simp only [most, maxLen] at *; omega
    ·rw [← hl, List.take_length]
  ·have h2 : at_ es id = some y := by
    simp only [at_] at hy
    rwa [if_neg hid] at hy
   have he := h.ent id y h2
   cases y with
   | dead => trivial
   | mp s kvs => exact he.extm x (by simp [Core.alloc, hid]) (fun g cap hg => he.2.1 g cap hg) (fun g cap hg => heap_alloc_old c.w _ g (he.mlt hg))
   | row s e' sz' rows' =>
    refine he.ext x (by simp [Core.alloc, hid]) (fun g cap hg => he.2.2.1 g cap hg) (fun xs ho => ho.kept hgr (by cases (ownVal (c.phi id) rows'.length).ownBlock <;> simp))
 ·intro i j s e' sz' rows' s2 e2 sz2 rows2 g cap cap' hi hj pi pj
  have old : ∀ k s3 e3 sz3 rows3 cap3, k ≠ es.length → at_ (Ent.row c.now e sz rows :: es) k = some (.row s3 e3 sz3 rows3) → (c.alloc es cells e rows.length).phi k = some (g, cap3) → at_ es k = some (.row s3 e3 sz3 rows3) ∧ c.phi k = some (g, cap3) ∧ g < c.w.heap.size := by
   intro k s3 e3 sz3 rows3 cap3 hk h3 p3
   simp only [at_] at h3
   rw [if_neg hk] at h3
   simp only [Core.alloc, if_neg hk] at p3
   obtain ⟨_, _, _, xs, _, h5⟩ := h.ent k _ h3
   rw [p3] at h5
   exact ⟨h3, p3, ownVal_lt h5⟩
  by_cases hi' : i = es.length <;> by_cases hj' : j = es.length
  ·rw [hi', hj']
  ·obtain ⟨_, _, hlt⟩ := old j _ _ _ _ _ hj' hj pj
   simp only [Core.alloc, if_pos hi'] at pi
   injection pi with pi
   injection pi with pi _
   omega
  ·obtain ⟨_, _, hlt⟩ := old i _ _ _ _ _ hi' hi pi
   simp only [Core.alloc, if_pos hj'] at pj
   injection pj with pj
   injection pj with pj _
   omega
  ·obtain ⟨a1, a2, _⟩ := old i _ _ _ _ _ hi' hi pi
   obtain ⟨b1, b2, _⟩ := old j _ _ _ _ _ hj' hj pj
   exact h.inj i j _ _ _ _ _ _ _ _ _ _ _ a1 b1 a2 b2
 ·intro i j s kvs s2 kvs2 g cap cap' hi hj pi pj
  have old : ∀ k s3 kvs3 cap3, at_ (Ent.row c.now e sz rows :: es) k = some (.mp s3 kvs3) → (c.alloc es cells e rows.length).phi k = some (g, cap3) → at_ es k = some (.mp s3 kvs3) ∧ c.phi k = some (g, cap3) := by
   intro k s3 kvs3 cap3 h3 p3
   have hk : k ≠ es.length := by
    rintro rfl
    rw [at_hit] at h3
    cases h3
   simp only [at_] at h3
   rw [if_neg hk] at h3
   simp only [Core.alloc, if_neg hk] at p3
   exact ⟨h3, p3⟩
  obtain ⟨a1, a2⟩ := old i _ _ _ hi pi
  obtain ⟨b1, b2⟩ := old j _ _ _ hj pj
  exact h.injm i j _ _ _ _ _ _ _ a1 b1 a2 b2

/-- A row is written, or moved: it bears a new stamp s' (or its old one, its length unchanged), and lies at p'. -/
def Core.turn (c : Core) (w' : World) (id : Nat) (p' : Option (Nat × Nat)) : Core :=
 { w := w', phi := fun j => if j = id then p' else c.phi j, now := c.now + 1, fro := c.fro }
theorem ext_turn {w0 : World} {c : Core} {es : List Ent} (h : Ok w0 c es) {id s e sz : Nat} {rows rows' : List (List AV)} (hid : at_ es id = some (.row s e sz rows)) {w' : World} {p' : Option (Nat × Nat)} {s' : Nat}
  (hg : c.w.grownBy w' (ownVal (c.phi id) rows.length).ownBlock) (hs : s' = c.now ∨ (s' = s ∧ rows'.length = rows.length ∧ p' = c.phi id)) (hdr : c.w.drawn ≤ w'.drawn := by exact Nat.le_refl _) :
  Ext c es (c.turn w' id p') (setAt es id (.row s' e sz rows')) := by
 obtain ⟨_, _, hf, _⟩ := h.ent id _ hid
 refine ⟨Nat.le_succ _, hdr, fun b hb => ⟨hb, hg.block b (h.lt b hb) (fun e => ?_)⟩, fun j s2 e2 sz2 rows2 hj hlt => ?_, fun j s2 kvs2 hj hlt => ?_⟩
 ·cases hp : c.phi id with
  | none => rw [hp] at e; cases e
  | some x =>
   obtain ⟨g, cap⟩ := x
   rw [hp] at e
   have e2 : b = g := by injection e
   subst e2
   exact hf b cap hp hb
 ·by_cases hji : j = id
  ·subst hji
   rw [at_setAt_same _ hid] at hj
   injection hj with hj
   injection hj with a1 a2 a3 a4
   subst a1 a2 a3 a4
   rcases hs with hs | ⟨h1, h2, h3⟩
   ·omega
   ·subst h1
    exact ⟨rows, hid, h2.symm, by simp [Core.turn, h3]⟩
  ·rw [at_setAt_ne _ hji] at hj
   exact ⟨rows2, hj, rfl, by simp [Core.turn, hji]⟩
 ·have hji : j ≠ id := by
   rintro rfl
   rw [at_setAt_same _ hid] at hj
   cases hj
  rw [at_setAt_ne _ hji] at hj
  exact ⟨kvs2, hj, by simp [Core.turn, hji]⟩
theorem ok_turn {w0 : World} {c : Core} {es : List Ent} (h : Ok w0 c es) {id s e sz : Nat} {rows rows' : List (List AV)} (hid : at_ es id = some (.row s e sz rows)) {w' : World} {p' : Option (Nat × Nat)} {s' : Nat}
  (hg : c.w.grownBy w' (ownVal (c.phi id) rows.length).ownBlock) (hs : s' = c.now ∨ (s' = s ∧ rows'.length = rows.length ∧ p' = c.phi id))
  (hp : (ownVal p' rows'.length).ownBlock = (ownVal (c.phi id) rows.length).ownBlock ∨ (ownVal p' rows'.length).ownBlock = some c.w.heap.size)
  (hm : rows'.length ≤ most) {xs' : List Value} (hr : RepRows c (some es) sz rows' xs') (ho : w'.ownsRow 0 e sz (ownVal p' rows'.length) rows'.length xs') (hdr : c.w.drawn ≤ w'.drawn := by exact Nat.le_refl _) :
  Ok w0 (c.turn w' id p') (setAt es id (.row s' e sz rows')) := by
 have x := ext_turn h hid hg hs hdr
 obtain ⟨hlt, _, hf, xs, hxs, how⟩ := h.ent id _ hid
 have hrow : ∀ k, (ownVal (c.phi id) rows.length).ownBlock = some k → w0.heap.size ≤ k := by
  intro k hk
  cases hp : c.phi id with
  | none => rw [hp] at hk; cases hk
  | some y =>
   obtain ⟨g, cap⟩ := y
   rw [hp] at hk
   injection hk with hk
   subst hk
   by_cases hh : w0.heap.size ≤ g
   ·exact hh
   ·exact absurd (h.old g (by omega)) (hf g cap hp)
 have news : ∀ g cap, p' = some (g, cap) → (c.phi id = some (g, cap) ∨ (∃ cap0, c.phi id = some (g, cap0)) ∨ g = c.w.heap.size) := by
  intro g cap hpp
  subst hpp
  rw [own_block_some] at hp
  rcases hp with hp | hp
  ·cases hq : c.phi id with
   | none => rw [hq] at hp; cases hp
   | some y =>
    obtain ⟨g0, cap0⟩ := y
    rw [hq, own_block_some] at hp
    injection hp with hp
    subst hp
    exact .inr (.inl ⟨cap0, rfl⟩)
  ·injection hp with hp
   exact .inr (.inr hp)
 have hmap : ∀ j s2 kvs2 g cap, at_ es j = some (.mp s2 kvs2) → c.phi j = some (g, cap) → w'.heap[g]? = c.w.heap[g]? := by
  intro j s2 kvs2 g cap hj hg2
  have he := h.ent j _ hj
  refine hg.block g (he.mlt hg2) fun e => ?_
  cases hp2 : c.phi id with
  | none => rw [hp2] at e; cases e
  | some y2 =>
   obtain ⟨g2, cap2⟩ := y2
   rw [hp2, own_block_some] at e
   injection e with e
   subst e
   obtain ⟨_, _, g3, cap3, h3, ent, clock, h4, _⟩ := he
   rw [hg2] at h3
   injection h3 with h3
   injection h3 with h3 _
   subst h3
   rw [hp2] at how
   rcases how.2 with ⟨h6, _⟩ | ⟨g', cap', cur, h6, _, h7, _⟩
   ·cases h6
   ·injection h6 with h6
    injection h6 with h6
    injection h6 with h6
    subst h6
    rw [h4] at h7
    cases h7
 refine ⟨h.below.grown hg h.below.size hrow, h.old, fun b hb => Nat.lt_of_lt_of_le (h.lt b hb) hg.size, fun j y hy => ?_, ?_, ?_⟩
 ·by_cases hji : j = id
  ·subst hji
   rw [at_setAt_same _ hid] at hy
   injection hy with hy
   subst hy
   refine ⟨?_, hm, fun g cap hgc hfg => ?_, xs', RepRows.ext (es := some es) (es' := some _) rows' x hr, ?_⟩
   ·simp only [Core.turn]
    rcases hs with hs | ⟨h1, _⟩ <;> omega
   ·simp only [Core.turn, if_pos] at hgc
    rcases news g cap hgc with h1 | ⟨cap0, h1⟩ | h1
    ·exact hf _ _ h1 hfg
    ·exact hf _ _ h1 hfg
    ·have := h.lt g hfg; omega
   ·simp only [Core.turn, if_pos]
    exact ho
  ·rw [at_setAt_ne _ hji] at hy
   have he := h.ent j y hy
   cases y with
   | dead => trivial
   | mp s2 kvs2 => exact he.extm x (by simp [Core.turn, hji]) (fun g cap hgc => he.2.1 g cap hgc) (fun g cap hgc => hmap j s2 kvs2 g cap hy hgc)
   | row s2 e2 sz2 rows2 =>
    refine he.ext x (by simp [Core.turn, hji]) (fun g cap hgc => he.2.2.1 g cap hgc) (fun zs hz => hz.kept hg ?_)
    cases hq : c.phi j with
    | none => exact .inl rfl
    | some y =>
     obtain ⟨g, cap⟩ := y
     refine .inr (fun e => ?_)
     cases hp2 : c.phi id with
     | none => rw [hp2] at e; cases e
     | some y2 =>
      obtain ⟨g2, cap2⟩ := y2
      rw [hp2] at e
      injection e with e
      subst e
      exact hji (h.inj j id _ _ _ _ _ _ _ _ _ _ _ hy hid hq hp2)
 ·have old : ∀ k s3 e3 sz3 rows3 g cap3, k ≠ id → at_ (setAt es id (.row s' e sz rows')) k = some (.row s3 e3 sz3 rows3) → (c.turn w' id p').phi k = some (g, cap3) → at_ es k = some (.row s3 e3 sz3 rows3) ∧ c.phi k = some (g, cap3) ∧ g < c.w.heap.size := by
   intro k s3 e3 sz3 rows3 g cap3 hk h3 p3
   rw [at_setAt_ne _ hk] at h3
   simp only [Core.turn, if_neg hk] at p3
   obtain ⟨_, _, _, xs, _, h5⟩ := h.ent k _ h3
   rw [p3] at h5
   exact ⟨h3, p3, ownVal_lt h5⟩
  have clash : ∀ k s3 e3 sz3 rows3 g cap3 cap4, k ≠ id → at_ (setAt es id (.row s' e sz rows')) k = some (.row s3 e3 sz3 rows3) → (c.turn w' id p').phi k = some (g, cap3) → (c.turn w' id p').phi id = some (g, cap4) → False := by
   intro k s3 e3 sz3 rows3 g cap3 cap4 hk h3 p3 p4
   obtain ⟨a1, a2, a3⟩ := old k _ _ _ _ _ _ hk h3 p3
   simp only [Core.turn, if_pos] at p4
   rcases news g cap4 p4 with h1 | ⟨cap0, h1⟩ | h1
   ·exact hk (h.inj k id _ _ _ _ _ _ _ _ _ _ _ a1 hid a2 h1)
   ·exact hk (h.inj k id _ _ _ _ _ _ _ _ _ _ _ a1 hid a2 h1)
   ·omega
  intro i j s2 e2 sz2 rows2 s3 e3 sz3 rows3 g cap cap' hi hj pi pj
  by_cases hi' : i = id <;> by_cases hj' : j = id
  ·rw [hi', hj']
  ·subst hi'
   exact (clash j _ _ _ _ _ _ _ hj' hj pj pi).elim
  ·subst hj'
   exact (clash i _ _ _ _ _ _ _ hi' hi pi pj).elim
  ·obtain ⟨a1, a2, _⟩ := old i _ _ _ _ _ _ hi' hi pi
   obtain ⟨b1, b2, _⟩ := old j _ _ _ _ _ _ hj' hj pj
   exact h.inj i j _ _ _ _ _ _ _ _ _ _ _ a1 b1 a2 b2
 ·intro i j s2 kvs2 s3 kvs3 g cap cap' hi hj pi pj
  have old : ∀ k s3 kvs3 cap3, at_ (setAt es id (.row s' e sz rows')) k = some (.mp s3 kvs3) → (c.turn w' id p').phi k = some (g, cap3) → at_ es k = some (.mp s3 kvs3) ∧ c.phi k = some (g, cap3) := by
   intro k s3 kvs3 cap3 h3 p3
   have hk : k ≠ id := by
    rintro rfl
    rw [at_setAt_same _ hid] at h3
    cases h3
   rw [at_setAt_ne _ hk] at h3
   simp only [Core.turn, if_neg hk] at p3
   exact ⟨h3, p3⟩
  obtain ⟨a1, a2⟩ := old i _ _ _ hi pi
  obtain ⟨b1, b2⟩ := old j _ _ _ hj pj
  exact h.injm i j _ _ _ _ _ _ _ a1 b1 a2 b2

/-- Entries are forgotten. -/
def Sub (es' es : List Ent) : Prop := ∀ id x, x ≠ .dead → at_ es' id = some x → at_ es id = some x
theorem Sub.row {es' es : List Ent} (h : Sub es' es) {id s e sz : Nat} {rows : List (List AV)} (hr : at_ es' id = some (.row s e sz rows)) : at_ es id = some (.row s e sz rows) := h id _ (by intro e; cases e) hr
theorem Sub.mp {es' es : List Ent} (h : Sub es' es) {id s : Nat} {kvs : List (ByteArray × Int)} (hr : at_ es' id = some (.mp s kvs)) : at_ es id = some (.mp s kvs) := h id _ (by intro e; cases e) hr
theorem Sub.refl (es : List Ent) : Sub es es := fun _ _ _ h => h
theorem Sub.trans {a b d : List Ent} (h : Sub a b) (k : Sub b d) : Sub a d := fun _ _ n x => k _ _ n (h _ _ n x)
theorem Sub.tail (x : Ent) (es : List Ent) : Sub es (x :: es) := fun _ _ _ h => at_miss _ h
theorem Sub.kill (es : List Ent) (id : Nat) : Sub (setAt es id .dead) es := by
 intro j x n h
 rw [at_setAt] at h
 split at h
 ·injection h with h
  exact absurd h.symm n
 ·exact h
theorem Sub.ext (c : Core) {es es' : List Ent} (h : Sub es' es) : Ext c es c es' :=
 ⟨Nat.le_refl _, Nat.le_refl _, fun _ hb => ⟨hb, rfl⟩, fun id s e sz rows hr _ => ⟨rows, h.row hr, rfl, rfl⟩, fun id s kvs hr _ => ⟨kvs, h.mp hr, rfl⟩⟩
theorem Sub.ok {w0 : World} {c : Core} {es es' : List Ent} (h : Sub es' es) (k : Ok w0 c es) : Ok w0 c es' := by
 refine ⟨k.below, k.old, k.lt, fun id y hy => ?_, fun i j s e sz rows s' e' sz' rows' g cap cap' hi hj => k.inj i j _ _ _ _ _ _ _ _ _ _ _ (h.row hi) (h.row hj), fun i j s kvs s' kvs' g cap cap' hi hj => k.injm i j _ _ _ _ _ _ _ (h.mp hi) (h.mp hj)⟩
 cases y with
 | dead => trivial
 | mp s kvs =>
  have := k.ent id _ (h.mp hy)
  exact this.extm (h.ext c) rfl (fun g cap hg => this.2.1 g cap hg) (fun _ _ _ => rfl)
 | row s e sz rows =>
  have := k.ent id _ (h.row hy)
  exact this.ext (h.ext c) rfl (fun g cap hg => this.2.2.1 g cap hg) (fun _ ho => ho)

/-- A row is written no more. -/
def Core.freeze (c : Core) (id : Nat) : Core := { c with fro := fun b => c.fro b ∨ ∃ cap, c.phi id = some (b, cap) }
theorem ext_freeze {c : Core} {es : List Ent} (id : Nat) : Ext c es (c.freeze id) (setAt es id .dead) := by
 refine ⟨Nat.le_refl _, Nat.le_refl _, fun _ hb => ⟨.inl hb, rfl⟩, fun j s e sz rows hr _ => ⟨rows, (Sub.kill es id).row hr, rfl, rfl⟩, fun j s kvs hr _ => ⟨kvs, (Sub.kill es id).mp hr, rfl⟩⟩
theorem ok_freeze {w0 : World} {c : Core} {es : List Ent} (k : Ok w0 c es) {id s e sz : Nat} {rows : List (List AV)} (hid : at_ es id = some (.row s e sz rows)) : Ok w0 (c.freeze id) (setAt es id .dead) := by
 have hsub := Sub.kill es id
 refine ⟨k.below, fun b hb => .inl (k.old b hb), fun b hb => ?_, fun j y hy => ?_, fun i j s e sz rows s' e' sz' rows' g cap cap' hi hj => k.inj i j _ _ _ _ _ _ _ _ _ _ _ (hsub.row hi) (hsub.row hj), fun i j s kvs s' kvs' g cap cap' hi hj => k.injm i j _ _ _ _ _ _ _ (hsub.mp hi) (hsub.mp hj)⟩
 ·rcases hb with hb | ⟨cap, hb⟩
  ·exact k.lt b hb
  ·obtain ⟨_, _, _, xs, _, h5⟩ := k.ent id _ hid
   rw [hb] at h5
   exact ownVal_lt h5
 ·cases y with
  | dead => trivial
  | mp s2 kvs2 =>
   have hj := hsub.mp hy
   have this := k.ent j _ hj
   refine this.extm (ext_freeze id) rfl (fun g cap hg hf => ?_) (fun _ _ _ => rfl)
   rcases hf with hf | ⟨cap', hf⟩
   ·exact this.2.1 g cap hg hf
   ·obtain ⟨_, _, g3, cap3, h3, ent, clock, h4, _⟩ := this
    rw [hg] at h3
    injection h3 with h3
    injection h3 with h3 _
    subst h3
    obtain ⟨_, _, _, xs, _, how⟩ := k.ent id _ hid
    rw [hf] at how
    rcases how.2 with ⟨h6, _⟩ | ⟨g', cap'', cur, h6, _, h7, _⟩
    ·cases h6
    ·injection h6 with h6
     injection h6 with h6
     injection h6 with h6
     subst h6
     rw [h4] at h7
     cases h7
  | row s2 e2 sz2 rows2 =>
   have hj := hsub.row hy
   have hji : j ≠ id := by
    intro e
    subst e
    rw [at_setAt_same _ hid] at hy
    cases hy
   have := k.ent j _ hj
   refine this.ext (ext_freeze id) rfl (fun g cap hg hf => ?_) (fun _ ho => ho)
   rcases hf with hf | ⟨cap', hf⟩
   ·exact this.2.2.1 g cap hg hf
   ·exact hji (k.inj j id _ _ _ _ _ _ _ _ _ _ _ hj hid hg hf)
theorem rep_freeze {w0 : World} {c : Core} {es : List Ent} (k : Ok w0 c es) {id s e sz : Nat} {rows : List (List AV)} (hid : at_ es id = some (.row s e sz rows)) (hclean : rows.all cleans = true) (m : Option (List Ent)) :
  Rep (c.freeze id) m (.list sz rows) (ownVal (c.phi id) rows.length) := by
 obtain ⟨_, hm, _, xs, h4, h5⟩ := k.ent id _ hid
 have x : ExtM c none (c.freeze id) none := ⟨Nat.le_refl _, fun _ hb => ⟨.inl hb, rfl⟩⟩
 have h4' := RepRows.ext rows x (h4.down rows hclean)
 simp only [Rep]
 cases hp : c.phi id with
 | none =>
  rw [hp] at h5
  rcases h5.2 with ⟨_, h6⟩ | ⟨g, cap, cur, h6, _⟩
  ·have hr : rows = [] := List.eq_nil_of_length_eq_zero h6
   subst hr
   refine ⟨none, 0, [], rfl, Nat.le_refl _, Nat.zero_le _, rfl, fun hv => absurd rfl hv⟩
  ·cases h6
 | some y =>
  obtain ⟨g, cap⟩ := y
  rw [hp] at h5
  rcases h5.2 with ⟨h6, _⟩ | ⟨g', cap', cur, h6, _, h7, h8, _, _, _⟩
  ·cases h6
  ·injection h6 with h6 h6' h6''
   injection h6 with h6
   injection h6 with h6
   subst h6 h6''
   refine ⟨some ⟨g, 0, none⟩, cap, xs, rfl, h8, hm, h4', fun hv => ⟨g, 0, rfl, .inr ⟨cap, hp⟩, fun j hj => ?_⟩⟩
   have := h5.cells (g := g) rfl j _ (List.getElem?_eq_getElem hj)
   rw [Nat.zero_add, List.getElem?_eq_getElem hj, ← this]
   show c.w.cell? _ = c.w.cell? _
   congr 1
   unfold Addr.add
   split <;> simp_all
/-- An empty row to which nothing is bound yet: the nil slice taken for one's own. -/
def Core.adopt (c : Core) (es : List Ent) : Core := { c with phi := fun j => if j = es.length then none else c.phi j, now := c.now + 1 }
theorem ext_adopt {w0 : World} {c : Core} {es : List Ent} (e sz : Nat) : Ext c es (c.adopt es) (.row c.now e sz [] :: es) := by
 refine ⟨Nat.le_succ _, Nat.le_refl _, fun b hb => ⟨hb, rfl⟩, fun id s e' sz' rows' hr hs => ?_, fun id s kvs' hr hs => ?_⟩
 ·by_cases hid : id = es.length
  ·subst hid
   rw [at_hit] at hr
   injection hr with hr
   injection hr with hr
   omega
  ·have h2 : at_ es id = some (.row s e' sz' rows') := by
    simp only [at_] at hr
    rwa [if_neg hid] at hr
   exact ⟨rows', h2, rfl, by simp [Core.adopt, hid]⟩
 ·have hid : id ≠ es.length := by
   rintro rfl
   rw [at_hit] at hr
   cases hr
  have h2 : at_ es id = some (.mp s kvs') := by
   simp only [at_] at hr
   rwa [if_neg hid] at hr
  exact ⟨kvs', h2, by simp [Core.adopt, hid]⟩
theorem ok_adopt {w0 : World} {c : Core} {es : List Ent} (h : Ok w0 c es) (e sz : Nat) : Ok w0 (c.adopt es) (.row c.now e sz [] :: es) := by
 have x := ext_adopt (w0 := w0) (c := c) (es := es) e sz
 refine ⟨h.below, h.old, h.lt, fun id y hy => ?_, ?_, ?_⟩
 ·by_cases hid : id = es.length
  ·subst hid
   rw [at_hit] at hy
   injection hy with hy
   subst hy
   refine ⟨Nat.lt_succ_self _, Nat.zero_le _, fun g cap hg => by simp [Core.adopt] at hg, [], rfl, ?_⟩
   simp only [Core.adopt, if_pos]
   exact World.ownsRow_nil _ 0 e sz
  ·have h2 : at_ es id = some y := by
    simp only [at_] at hy
    rwa [if_neg hid] at hy
   have he := h.ent id y h2
   cases y with
   | dead => trivial
   | mp s kvs => exact he.extm x (by simp [Core.adopt, hid]) (fun g cap hg => he.2.1 g cap hg) (fun _ _ _ => rfl)
   | row s e' sz' rows' => exact he.ext x (by simp [Core.adopt, hid]) (fun g cap hg => he.2.2.1 g cap hg) (fun xs ho => ho)
 ·intro i j s e' sz' rows' s2 e2 sz2 rows2 g cap cap' hi hj pi pj
  have old : ∀ k s3 e3 sz3 rows3 cap3, at_ (Ent.row c.now e sz [] :: es) k = some (.row s3 e3 sz3 rows3) → (if k = es.length then none else c.phi k) = some (g, cap3) → at_ es k = some (.row s3 e3 sz3 rows3) ∧ c.phi k = some (g, cap3) := by
   intro k s3 e3 sz3 rows3 cap3 h3 p3
   by_cases hk : k = es.length
   ·rw [if_pos hk] at p3; cases p3
   ·simp only [at_] at h3
    rw [if_neg hk] at h3 p3
    exact ⟨h3, p3⟩
  obtain ⟨a1, a2⟩ := old i _ _ _ _ _ hi pi
  obtain ⟨b1, b2⟩ := old j _ _ _ _ _ hj pj
  exact h.inj i j _ _ _ _ _ _ _ _ _ _ _ a1 b1 a2 b2
 ·intro i j s kvs s2 kvs2 g cap cap' hi hj pi pj
  have old : ∀ k s3 kvs3 cap3, at_ (Ent.row c.now e sz [] :: es) k = some (.mp s3 kvs3) → (if k = es.length then none else c.phi k) = some (g, cap3) → at_ es k = some (.mp s3 kvs3) ∧ c.phi k = some (g, cap3) := by
   intro k s3 kvs3 cap3 h3 p3
   by_cases hk : k = es.length
   ·rw [if_pos hk] at p3; cases p3
   ·simp only [at_] at h3
    rw [if_neg hk] at h3 p3
    exact ⟨h3, p3⟩
  obtain ⟨a1, a2⟩ := old i _ _ _ hi pi
  obtain ⟨b1, b2⟩ := old j _ _ _ hj pj
  exact h.injm i j _ _ _ _ _ _ _ a1 b1 a2 b2
end
section
open Go.RowKit

/-- One operation: what holds behind it. -/
def AOp (P : Program) (w0 : World) (N : Nat) (o : Oper) (f : Frame) (es : List Ent) (K : Frame → List Ent → Prop) : Prop :=
 ∀ (c : Core) (A : Act) (next : Act → World → Prop) (Q : Exit → Act → World → Prop), Ok w0 c es → RepF N c es f A →
  (∀ c' es' f' A', Ext c es c' es' → Ok w0 c' es' → RepF N c' es' f' A' → K f' es' → next A' c'.w) → o.wp P A c.w next Q
/-- The operations that are left of a region. -/
def AList (P : Program) (w0 : World) (N : Nat) (ops : Array Oper) (l : List Oper) (f : Frame) (es : List Ent) (K : Frame → List Ent → Prop) : Prop :=
 ∀ (c : Core) (A : Act) (Q : Exit → Act → World → Prop), Ok w0 c es → RepF N c es f A →
  (∀ c' es' f' A', Ext c es c' es' → Ok w0 c' es' → RepF N c' es' f' A' → K f' es' → Q .normal A' c'.w) → wpList P ops Q l A c.w
/-- Code: what holds where it is left. -/
def AWp (P : Program) (w0 : World) (N : Nat) (code : Code) (f : Frame) (es : List Ent) (K : Exit → Frame → List Ent → Prop) : Prop :=
 ∀ (c : Core) (A : Act) (Q : Exit → Act → World → Prop), Ok w0 c es → RepF N c es f A →
  (∀ e c' es' f' A', Ext c es c' es' → Ok w0 c' es' → RepF N c' es' f' A' → K e f' es' → Q e A' c'.w) → code.wp P Q A c.w
/-- A call of a Go function: what it answers. -/
def ACalls (P : Program) (w0 : World) (fid : FuncId) (args : List AV) (es : List Ent) (R : AV → List Ent → Prop) : Prop :=
 ∀ (c : Core) (vs : Array Value), Ok w0 c es → Reps c (some es) args vs.toList →
  Calls P fid vs c.w fun e w' => ∃ v c' es' r, e = .returned v ∧ c'.w = w' ∧ Ext c es c' es' ∧ Ok w0 c' es' ∧ Rep c' (some es') r v ∧ R r es'

section
variable {P : Program} {w0 : World} {N : Nat} {ops : Array Oper} {o : Oper} {rest : List Oper} {f : Frame} {es : List Ent}

theorem AOp.mono {K K' : Frame → List Ent → Prop} (h : AOp P w0 N o f es K) (hk : ∀ f es, K f es → K' f es) : AOp P w0 N o f es K' :=
 fun c A next Q ok rf hn => h c A next Q ok rf fun c' es' f' A' x o' r' k => hn c' es' f' A' x o' r' (hk _ _ k)
theorem AWp.mono {code : Code} {K K' : Exit → Frame → List Ent → Prop} (h : AWp P w0 N code f es K) (hk : ∀ e f es, K e f es → K' e f es) : AWp P w0 N code f es K' :=
 fun c A Q ok rf hn => h c A Q ok rf fun e c' es' f' A' x o' r' k => hn e c' es' f' A' x o' r' (hk _ _ _ k)
theorem ACalls.mono {fid : FuncId} {args : List AV} {R R' : AV → List Ent → Prop} (h : ACalls P w0 fid args es R) (hr : ∀ r es, R r es → R' r es) : ACalls P w0 fid args es R' :=
 fun c vs ok rs => (h c vs ok rs).mono fun e w' ⟨v, c', es', r, h1, h2, h3, h4, h5, h6⟩ => ⟨v, c', es', r, h1, h2, h3, h4, h5, hr _ _ h6⟩

/-! ### lists of operations -/
theorem l_nil {K : Frame → List Ent → Prop} (h : K f es) : AList P w0 N ops [] f es K :=
 fun c A Q ok rf hk => wpList_nil (hk c es f A (Ext.refl c es) ok rf h)
theorem l_cons {K : Frame → List Ent → Prop} (hg : o.guard = none) (h : AOp P w0 N o f es fun f' es' => AList P w0 N ops rest f' es' K) : AList P w0 N ops (o :: rest) f es K := by
 intro c A Q ok rf hk
 refine wpList_plain hg fun K' hK' => h c A K' Q ok rf fun c' es' f' A' x ok' rf' hl => hK' _ _ (hl c' A' Q ok' rf' ?_)
 exact fun c2 es2 f2 A2 x2 ok2 rf2 k2 => hk c2 es2 f2 A2 (x.trans x2) ok2 rf2 k2
theorem yielded_of {c : Core} {A : Act} (rf : RepF N c es f A) {j d : Nat} {b : Bool} (hd : (ops[j]?).bind (·.dst) = some d) (hN : Nat.blt d N = true) (hb : f d = .bool b) : yielded ops A.tmps j = some b := by
 have h := rf.rep d
 rw [hb] at h
 simp only [Rep] at h
 have hlt : d < A.tmps.size := by rw [rf.size]; simpa using hN
 have : A.tmps[d]? = some (.bool b) := by
  rw [Array.getElem?_eq_getElem hlt]
  rw [Array.getD_eq_getD_getElem?, Array.getElem?_eq_getElem hlt] at h
  simpa using h
 simp [yielded, hd, this]
theorem yielded_undef {c : Core} {A : Act} (rf : RepF N c es f A) {j d : Nat} (hd : (ops[j]?).bind (·.dst) = some d) (hb : f d = .raw undef) : yielded ops A.tmps j = none := by
 have h := rf.rep d
 rw [hb] at h
 simp only [Rep] at h
 unfold yielded
 rw [hd]
 simp only [Option.bind_some]
 split
 ·rename_i b hq
  rw [Array.getD_eq_getD_getElem?, hq] at h
  simp [undef] at h
 ·rfl
theorem l_guard_undef {K : Frame → List Ent → Prop} {j d : Nat} {want : Bool} (hg : o.guard = some (j, want)) (hd : (ops[j]?).bind (·.dst) = some d) (hb : f d = .raw undef) (hdst : dok N o.dst = true)
  (h2 : AList P w0 N ops rest (put f o.dst (.raw undef)) es K) : AList P w0 N ops (o :: rest) f es K := by
 intro c A Q ok rf hk
 have hy := yielded_undef (ops := ops) rf hd hb
 refine wpList_step fun K' hK' => ?_
 rw [if_neg (by simp [Region.wanted, hg, hy])]
 exact hK' _ _ (h2 c _ Q ok (rf.put hdst (by simp only [Rep])) hk)
theorem l_guard {K : Frame → List Ent → Prop} {j d : Nat} {want b : Bool} (hg : o.guard = some (j, want)) (hd : (ops[j]?).bind (·.dst) = some d) (hN : Nat.blt d N = true) (hb : f d = .bool b) (hdst : dok N o.dst = true)
  (h1 : b = want → AOp P w0 N o f es fun f' es' => AList P w0 N ops rest f' es' K) (h2 : b = !want → AList P w0 N ops rest (put f o.dst (.raw undef)) es K) : AList P w0 N ops (o :: rest) f es K := by
 intro c A Q ok rf hk
 have hy := yielded_of (ops := ops) rf hd hN hb
 refine wpList_step fun K' hK' => ?_
 by_cases hbw : b = want
 ·rw [if_pos (by simp [Region.wanted, hg, hy, hbw])]
  exact h1 hbw c A K' Q ok rf fun c' es' f' A' x ok' rf' hl => hK' _ _ (hl c' A' Q ok' rf' fun c2 es2 f2 A2 x2 ok2 rf2 k2 => hk c2 es2 f2 A2 (x.trans x2) ok2 rf2 k2)
 ·rw [if_neg (by simp [Region.wanted, hg, hy, hbw])]
  exact hK' _ _ (h2 (by cases b <;> cases want <;> simp_all) c _ Q ok (rf.put hdst (by simp only [Rep])) hk)
/-! ### code -/
def kseq (K1 : Frame → List Ent → Prop) (K : Exit → Frame → List Ent → Prop) : Exit → Frame → List Ent → Prop
 | .normal, f, es => K1 f es
 | e, f, es => K e f es
def kblk (id : Nat) (K : Exit → Frame → List Ent → Prop) : Exit → Frame → List Ent → Prop
 | .exit id', f, es => if id' = id then K .normal f es else K (.exit id') f es
 | e, f, es => K e f es

variable {K : Exit → Frame → List Ent → Prop}
theorem w_region {id : Nat} {l : List Oper} (h : AList P w0 N l.toArray l f es (K .normal)) : AWp P w0 N (.region id l.toArray false) f es K :=
 fun c A Q ok rf hk => wp_region_lit (h c A Q ok rf fun c' es' f' A' x ok' rf' k => hk .normal c' es' f' A' x ok' rf' k)
theorem w_seq {x y : Code} (h : AWp P w0 N x f es (kseq (fun f' es' => AWp P w0 N y f' es' K) K)) : AWp P w0 N (.seq x y) f es K := by
 intro c A Q ok rf hk
 refine wp_seq (h c A _ ok rf fun e c' es' f' A' x1 ok' rf' k => ?_)
 cases e with
 | normal => exact k c' A' Q ok' rf' fun e c2 es2 f2 A2 x2 ok2 rf2 k2 => hk e c2 es2 f2 A2 (x1.trans x2) ok2 rf2 k2
 | exit id => exact hk _ c' es' f' A' x1 ok' rf' k
 | goto l => exact hk _ c' es' f' A' x1 ok' rf' k
 | ret => exact hk _ c' es' f' A' x1 ok' rf' k
 | panic ch => exact hk _ c' es' f' A' x1 ok' rf' k
 | outgrown => exact hk _ c' es' f' A' x1 ok' rf' k
theorem w_skip (h : K .normal f es) : AWp P w0 N .skip f es K :=
 fun c A Q ok rf hk => wp_skip (hk _ c es f A (Ext.refl c es) ok rf h)
theorem w_exit {id : Nat} (h : K (.exit id) f es) : AWp P w0 N (.exit id) f es K :=
 fun c A Q ok rf hk => wp_exit (hk _ c es f A (Ext.refl c es) ok rf h)
theorem w_ret (h : K .ret f es) : AWp P w0 N .ret f es K :=
 fun c A Q ok rf hk => wp_ret (hk _ c es f A (Ext.refl c es) ok rf h)
theorem w_cond {x : Operand} {c1 c2 : Code} {b : Bool} (hx : ev f x = .bool b) (h1 : b = true → AWp P w0 N c1 f es K) (h2 : b = false → AWp P w0 N c2 f es K) : AWp P w0 N (.cond x c1 c2) f es K := by
 intro c A Q ok rf hk
 have h := rep_ev rf x
 rw [hx] at h
 simp only [Rep] at h
 refine wp_cond_split h (fun e => h1 e c A Q ok rf hk) (fun e => h2 e c A Q ok rf hk)
theorem w_block {id : Nat} {b : Code} (h : AWp P w0 N b f es (kblk id K)) : AWp P w0 N (.block id b) f es K := by
 intro c A Q ok rf hk
 refine wp_block (h c A _ ok rf fun e c' es' f' A' x ok' rf' k => ?_)
 cases e with
 | exit id' =>
  simp only [kblk] at k
  simp only [Exit.inBlock]
  split
  ·rename_i e
   rw [if_pos e] at k
   exact hk _ c' es' f' A' x ok' rf' k
  ·rename_i e
   rw [if_neg e] at k
   exact hk _ c' es' f' A' x ok' rf' k
 | normal => exact hk _ c' es' f' A' x ok' rf' k
 | goto l => exact hk _ c' es' f' A' x ok' rf' k
 | ret => exact hk _ c' es' f' A' x ok' rf' k
 | panic ch => exact hk _ c' es' f' A' x ok' rf' k
 | outgrown => exact hk _ c' es' f' A' x ok' rf' k

theorem wp_loop_ind {cd : Code} {Q : Exit → Act → World → Prop} (J : Nat → Act → World → Prop)
  (round : ∀ n a w, J n a w → cd.wp P (Exit.then (fun a' w' => ∃ m, m < n ∧ J m a' w') Q) a w) (n : Nat) (a : Act) (w : World) (h0 : J n a w) : (Code.loop cd).wp P Q a w := by
 intro b k cs
 have key : ∀ n a w, J n a w → ∃ e a' w', Q e a' w' ∧ Arrives P (lone (b.at a (.code cd :: .inLoop cd :: k)) cs w) b k cs e a' w' := by
  intro n
  induction n using Nat.strongRecOn with
  | _ n ih =>
   intro a w hJ
   obtain ⟨e, a₁, w₁, hq, harr⟩ := round n a w hJ b (.inLoop cd :: k) cs
   cases e with
   | normal =>
    obtain ⟨m, hlt, hI₁⟩ := hq
    obtain ⟨e₂, a₂, w₂, hq₂, harr₂⟩ := ih m hlt a₁ w₁ hI₁
    exact ⟨e₂, a₂, w₂, hq₂, .of_steps (Steps.trans harr (.one step_inLoop)) harr₂⟩
   | exit id => exact ⟨_, a₁, w₁, hq, .pass (x := .inLoop cd) rfl (fun _ _ => .inl (by simp)) harr⟩
   | goto l => exact ⟨_, a₁, w₁, hq, .pass (x := .inLoop cd) rfl (fun _ _ => .inl (by simp)) harr⟩
   | ret => exact ⟨_, a₁, w₁, hq, .pass (x := .inLoop cd) rfl (fun _ _ => .inl (by simp)) harr⟩
   | panic ch => exact ⟨_, a₁, w₁, hq, .pass (x := .inLoop cd) rfl (fun _ _ => .inl (by simp)) harr⟩
   | outgrown => exact ⟨_, a₁, w₁, hq, .pass (x := .inLoop cd) rfl (fun _ _ => .inl (by simp)) harr⟩
 obtain ⟨e, a', w', hq, harr⟩ := key n a w h0
 exact ⟨e, a', w', hq, .of_steps (.one step_loop) harr⟩
/-- A loop: I n f es holds at the head of a round, n falls. -/
theorem w_loop {cd : Code} (I : Nat → Frame → List Ent → Prop) (n : Nat) (h0 : I n f es)
  (round : ∀ n f es, I n f es → AWp P w0 N cd f es (kseq (fun f' es' => ∃ m, m < n ∧ I m f' es') K)) : AWp P w0 N (.loop cd) f es K := by
 intro c A Q ok rf hk
 refine wp_loop_ind (fun m a w => ∃ c' es' f', c'.w = w ∧ Ext c es c' es' ∧ Ok w0 c' es' ∧ RepF N c' es' f' a ∧ I m f' es') ?_ n A c.w ⟨c, es, f, rfl, Ext.refl c es, ok, rf, h0⟩
 rintro m a w ⟨c1, es1, f1, rfl, x1, ok1, rf1, i1⟩
 refine round m f1 es1 i1 c1 a _ ok1 rf1 fun e c' es' f' A' x2 ok' rf' k => ?_
 cases e with
 | normal => obtain ⟨m', hlt, i2⟩ := k; exact ⟨m', hlt, c', es', f', rfl, x1.trans x2, ok', rf', i2⟩
 | exit id => exact hk _ c' es' f' A' (x1.trans x2) ok' rf' k
 | goto l => exact hk _ c' es' f' A' (x1.trans x2) ok' rf' k
 | ret => exact hk _ c' es' f' A' (x1.trans x2) ok' rf' k
 | panic ch => exact hk _ c' es' f' A' (x1.trans x2) ok' rf' k
 | outgrown => exact hk _ c' es' f' A' (x1.trans x2) ok' rf' k

/-! ### knowing less -/
/-- f' knows no more than f. -/
def Less (f' f : Frame) : Prop := ∀ t, f' t = f t ∨ f' t = .any
theorem RepF.less {c : Core} {f' : Frame} {A : Act} (h : RepF N c es f A) (l : Less f' f) : RepF N c es f' A :=
 ⟨h.size, fun t => by
  rcases l t with e | e
  ·rw [e]; exact h.rep t
  ·rw [e]; simp only [Rep], h.defers⟩
/-- Slots and entries are forgotten. -/
theorem w_less {code : Code} {f' : Frame} {es' : List Ent} (l : Less f' f) (s : Sub es' es) (h : AWp P w0 N code f' es' K) : AWp P w0 N code f es K :=
 fun c A Q ok rf hk => h c A Q (s.ok ok) ((rf.less l).ext (s.ext c)) fun e c' es2 f2 A2 x ok2 rf2 k => hk e c' es2 f2 A2 ((s.ext c).trans x) ok2 rf2 k
/-- The nil slice in slot t, taken for a row of one's own. -/
theorem w_adopt {code : Code} (t e sz : Nat) (ht : f t = .nil) (h : ∀ s, AWp P w0 N code (upd f t (.own es.length s)) (.row s e sz [] :: es) K) : AWp P w0 N code f es K := by
 intro c A Q ok rf hk
 have x := ext_adopt (w0 := w0) (c := c) (es := es) e sz
 refine h c.now (c.adopt es) A Q (ok_adopt ok e sz) ⟨rf.size, fun u => ?_, rf.defers⟩ fun e c' es2 f2 A2 x2 ok2 rf2 k => hk e c' es2 f2 A2 (x.trans x2) ok2 rf2 k
 by_cases hu : u = t
 ·subst hu
  rw [upd_same]
  have := rf.rep u
  rw [ht] at this
  simp only [Rep] at this ⊢
  refine ⟨_, rfl, ⟨_, _, _, this⟩, Nat.lt_succ_self _, fun e' sz' rows' hr => ?_⟩
  rw [at_hit] at hr
  injection hr with hr
  injection hr with _ _ _ hr
  subst hr
  simp [Core.adopt, ownVal, this]
 ·rw [upd_ne _ _ hu]
  exact Rep.ext (es := some es) (es' := some _) _ x (rf.rep u)
/-- The row in slot t is written no more: it is a list from here on. -/
theorem w_freeze {code : Code} (t : Nat) {id s e sz : Nat} {rows : List (List AV)} (ht : f t = .own id s) (hid : at_ es id = some (.row s e sz rows)) (hclean : rows.all cleans = true) (h : AWp P w0 N code (upd f t (.list sz rows)) (setAt es id .dead) K) : AWp P w0 N code f es K := by
 intro c A Q ok rf hk
 have x := ext_freeze (c := c) (es := es) id
 refine h (c.freeze id) A Q (ok_freeze ok hid) ⟨rf.size, fun u => ?_, rf.defers⟩ fun e c' es2 f2 A2 x2 ok2 rf2 k => hk e c' es2 f2 A2 (x.trans x2) ok2 rf2 k
 by_cases hu : u = t
 ·subst hu
  rw [upd_same]
  have := rf.rep u
  rw [ht] at this
  simp only [Rep] at this
  obtain ⟨_, he, _, h1, h2⟩ := this
  injection he with he
  subst he
  rw [h2 _ _ _ hid]
  exact rep_freeze ok hid hclean _
 ·rw [upd_ne _ _ hu]
  exact Rep.ext (es := some es) (es' := some _) _ x (rf.rep u)

/-! ### calls -/
def entry (args : List AV) : Frame := fun t => args.getD t .any
/-- What a function answers from its last frame: r. -/
def ARes (P : Program) (w0 : World) (N : Nat) (fn : Func) (f : Frame) (es : List Ent) (r : AV) : Prop :=
 ∀ (c : Core) (A : Act), Ok w0 c es → RepF N c es f A → ∃ v, (results fn A.tmps).run P c.w = .ok v c.w ∧ Rep c (some es) r v
def kret (P : Program) (w0 : World) (N : Nat) (fn : Func) (R : AV → List Ent → Prop) : Exit → Frame → List Ent → Prop
 | .ret, f, es => ∃ r es2, ARes P w0 N fn f es r ∧ Sub es2 es ∧ R r es2
 | .normal, f, es => ∃ r es2, ARes P w0 N fn f es r ∧ Sub es2 es ∧ R r es2
 | _, _, _ => False
theorem Reps.entry {c : Core} {es : Option (List Ent)} {args : List AV} {vs : List Value} (h : Reps c es args vs) (n : Nat) (t : Nat) : Rep c es (entry args t) ((vs.toArray ++ Array.replicate n undef).getD t undef) := by
 by_cases ht : t < args.length
 ·have := h.get t
  rw [show (vs.toArray ++ Array.replicate n undef).getD t undef = vs.getD t undef by
   rw [Array.getD_eq_getD_getElem?, Array.getElem?_append_left (by simpa [h.length] using ht)]
   simp [List.getD]]
  exact this
 ·rw [show Av.entry args t = .any by simp [Av.entry, List.getD, List.getElem?_eq_none (by omega : args.length ≤ t)]]
  simp only [Rep]
theorem calls_intro {fid : FuncId} {fn : Func} {cd : Code} {args : List AV} {R : AV → List Ent → Prop} (hf : P.funcs[fid]? = some fn) (hb : fn.body = some cd) (hN : fn.ntmps = N) (hl : args.length ≤ N)
  (h : AWp P w0 N cd (entry args) es (kret P w0 N fn R)) : ACalls P w0 fid args es R := by
 intro c vs ok rs
 have hsz : vs.size = args.length := by rw [← Array.length_toList]; exact rs.length
 refine calls_of_wp hf hb (h c _ _ ok ⟨?_, fun t => ?_, rfl⟩ fun e c' es' f' A' x ok' rf' k => ?_)
 ·simp only [Array.size_append, Array.size_replicate, hN]
  omega
 ·have := rs.entry (fn.ntmps - vs.size) t
  simpa using this
 ·have fin : (∃ r es2, ARes P w0 N fn f' es' r ∧ Sub es2 es' ∧ R r es2) → A'.defers = [] ∧ ∃ v, (results fn A'.tmps).run P c'.w = .ok v c'.w ∧ ∃ v0 c2 es2 r, Ending.returned v = .returned v0 ∧ c2.w = c'.w ∧ Ext c es c2 es2 ∧ Ok w0 c2 es2 ∧ Rep c2 es2 r v0 ∧ R r es2 := by
   rintro ⟨r, es2, hr, hs, hR⟩
   obtain ⟨v, hv, hrep⟩ := hr c' A' ok' rf'
   exact ⟨rf'.defers, v, hv, v, c', es2, r, rfl, rfl, x.trans (hs.ext c'), hs.ok ok', Rep.ext (es := some _) (es' := some _) _ (hs.ext c') hrep, hR⟩
  cases e with
  | ret => exact fin k
  | normal => exact fin k
  | exit id => exact k.elim
  | goto l => exact k.elim
  | panic ch => exact k.elim
  | outgrown => exact k.elim
theorem res_tmp {fn : Func} {t : Nat} (h : fn.results = #[.tmp t]) : ARes P w0 N fn f es (f t) :=
 fun c A ok rf => ⟨A.tmps.getD t undef, by simp [results, h], rf.rep t⟩
theorem res_none {fn : Func} (h : fn.results = #[]) : ARes P w0 N fn f es (.tup []) :=
 fun c A ok rf => ⟨.tuple #[], by simp [results, h], by simp only [Rep, Reps]; exact ⟨_, rfl, rfl⟩⟩
end
end
section
open Go.RowKit

/-! ### what is asked of types, each a closed fact -/
def tyB (P : Program) (t : TypeId) (agg : Bool) (sz : Nat) : Bool :=
 match P.underlying t, P.info? t with
 | some d, some i => ((match d with | .struct _ | .array _ _ => true | _ => false) == agg) && i.size == sz
 | _, _ => false
def zeroAVs (P : Program) (t : TypeId) : Option (List AV) :=
 match (P.info? t).bind (·.zero) with
 | some z => if z.cells.toList.all (·.oneCell') then some (z.cells.toList.map ofConst) else none
 | none => none
def fieldB (P : Program) (t : TypeId) (k off : Nat) : Bool :=
 match P.underlying t with
 | some (.struct fs) => match fs[k]? with
  | some f => f.offset == off && (match P.info? f.type with | some i => i.size != 0 | none => false)
  | none => false
 | _ => false
def sliceB (P : Program) (t e sz : Nat) : Bool :=
 match P.underlying t, P.info? e with
 | some (.slice e'), some i => e' == e && i.size == sz
 | _, _ => false
def arrB (P : Program) (t n e sz : Nat) : Bool :=
 match P.underlying t, P.info? e with
 | some (.array n' e'), some i => n' == n && e' == e && i.size == sz
 | _, _ => false
/-- A function that can be entered. -/
def enterB (P : Program) (g : FuncId) : Bool :=
 match P.funcs[g]? with
 | some fn => fn.name != "runtime.NumGoroutine" && fn.body.isSome
 | none => false

section
variable {P : Program} {w0 : World} {N : Nat} {f : Frame} {es : List Ent} {K : Frame → List Ent → Prop}

theorem run_isAgg {t : TypeId} {agg : Bool} {sz : Nat} (h : tyB P t agg sz = true) (w : World) : (isAgg t).run P w = .ok agg w := by
 unfold tyB at h
 split at h
 ·rename_i d i hu hi
  simp only [Bool.and_eq_true, beq_iff_eq] at h
  unfold isAgg
  rw [Sem.run_bind, run_underlying hu w]
  obtain ⟨h1, h2⟩ := h
  cases d <;> simp_all
 ·cases h
theorem run_sizeOf {t : TypeId} {agg : Bool} {sz : Nat} (h : tyB P t agg sz = true) (w : World) : (sizeOf t).run P w = .ok sz w := by
 unfold tyB at h
 split at h
 ·rename_i d i hu hi
  simp only [Bool.and_eq_true, beq_iff_eq] at h
  simp [sizeOf, typeInfo, hi, h.2]
 ·cases h

/-- An operation that yields a value. -/
theorem op_run {o : Oper} (hd : dok N o.dst = true) (h : ∀ c A, Ok w0 c es → RepF N c es f A → ∃ v c' es' a, (execOp A.eval o).run P c.w = .ok (.value v) c'.w ∧ Ext c es c' es' ∧ Ok w0 c' es' ∧ Rep c' (some es') a v ∧ K (put f o.dst a) es') : AOp P w0 N o f es K := by
 intro c A next Q ok rf hn
 obtain ⟨v, c', es', a, hr, x, ok', rep, k⟩ := h c A ok rf
 simp only [Oper.wp, hr, Oper.upon]
 exact hn c' es' _ _ x ok' ((rf.ext x).put hd rep) k
/-- An operation that only looks. -/
theorem op_look {o : Oper} (hd : dok N o.dst = true) {a : AV} (h : ∀ c A, Ok w0 c es → RepF N c es f A → ∃ v, (execOp A.eval o).run P c.w = .ok (.value v) c.w ∧ Rep c (some es) a v) (k : K (put f o.dst a) es) : AOp P w0 N o f es K :=
 op_run hd fun c A ok rf => let ⟨v, hr, rep⟩ := h c A ok rf; ⟨v, c, es, a, hr, Ext.refl c es, ok, rep, k⟩

variable {d : Nat} {ty : TypeId} {pos : String} {aft : Array Edge} {g : Option (Nat × Bool)} {x y z : Operand} {a : AV}
theorem o_move (hx : ev f x = a) (k : K (upd f d a) es) (hd : Nat.blt d N = true := by rfl) : AOp P w0 N ⟨some d, .move x, ty, pos, aft, g⟩ f es K :=
 op_look hd (fun c A ok rf => ⟨_, rfl, hx ▸ rep_ev rf x⟩) k
theorem o_assign (hx : ev f x = a) (k : K (upd f d a) es) (hd : Nat.blt d N = true := by rfl) : AOp P w0 N ⟨some d, .assign x, ty, pos, aft, g⟩ f es K :=
 op_look hd (fun c A ok rf => ⟨_, rfl, hx ▸ rep_ev rf x⟩) k
theorem o_pick {b : Bool} (hx : ev f x = .bool b) (ha : (if b = true then ev f y else ev f z) = a) (k : K (upd f d a) es) (hd : Nat.blt d N = true := by rfl) : AOp P w0 N ⟨some d, .pick x y z, ty, pos, aft, g⟩ f es K := by
 refine op_look hd (fun c A ok rf => ?_) k
 have h := rep_ev rf x
 rw [hx] at h
 simp only [Rep] at h
 refine ⟨if b = true then A.eval y else A.eval z, ?_, ?_⟩
 ·simp [execOp, h, asBool]
 ·rw [← ha]
  split
  ·exact rep_ev rf y
  ·exact rep_ev rf z

/-! ### memory -/
theorem own_cells {c : Core} (ok : Ok w0 c es) {id s e sz : Nat} {rows : List (List AV)} (he : at_ es id = some (.row s e sz rows)) {gb cap : Nat} (hp : c.phi id = some (gb, cap)) :
  ∃ xs cur, RepRows c (some es) sz rows xs ∧ c.w.heap[gb]? = some (.cells cur e (0, 0)) ∧ rows.length ≤ cap ∧ cap ≤ maxLen ∧ cur.size = cap * sz ∧ cur.toList.take (rows.length * sz) = xs ∧ ∀ j u, xs[j]? = some u → c.w.cell? ⟨gb, j, none⟩ = some u := by
 obtain ⟨_, _, _, xs, h4, h5⟩ := ok.ent id _ he
 rw [hp] at h5
 have hc := h5.cells (g := gb) rfl
 rcases h5.2 with ⟨h6, _⟩ | ⟨g', cap', cur, h6, _, h7, h8, h9, h10, h11⟩
 ·cases h6
 ·injection h6 with h6 _ h6''
  injection h6 with h6
  injection h6 with h6
  subst h6 h6''
  refine ⟨xs, cur, h4, h7, h8, h9, h10, h11, fun j u hj => ?_⟩
  have := hc j u hj
  rwa [show (⟨gb, 0, none⟩ : Addr).add j = ⟨gb, j, none⟩ by unfold Addr.add; split <;> simp_all] at this
def loadAV (agg : Bool) (n : Nat) (r : List AV) (off : Nat) : AV := if agg then .agg ((r.drop off).take n) else r.getD off .any
theorem run_loadVar {t : TypeId} {agg : Bool} {n : Nat} (ht : tyB P t agg n = true) (hn : agg = false → n = 1) {w : World} {b k : Nat} {vs : List Value} (hl : vs.length = n) (hc : ∀ j u, vs[j]? = some u → w.cell? ⟨b, k + j, none⟩ = some u) :
  (loadVar t ⟨b, k, none⟩).run P w = .ok (if agg then .agg vs.toArray else vs.getD 0 undef) w := by
 have hc' : ∀ j u, vs[j]? = some u → w.cell? ((⟨b, k, none⟩ : Addr).add j) = some u := fun j u hj => by
  rw [show (⟨b, k, none⟩ : Addr).add j = ⟨b, k + j, none⟩ by unfold Addr.add; split <;> simp_all]
  exact hc j u hj
 cases agg with
 | true =>
  have := run_loadCells_list (P := P) w ⟨b, k, none⟩ vs hc'
  rw [hl] at this
  simp [loadVar, run_isAgg ht, run_sizeOf ht, this]
 | false =>
  have h1 := hn rfl
  subst h1
  match vs, hl with
  | [u], _ =>
   have := hc 0 u rfl
   simp only [Nat.add_zero] at this
   simp [loadVar, run_isAgg ht, this]
theorem rep_load {c : Core} {r : List AV} {es : Option (List Ent)} {vs : List Value} (h : Reps c es r vs) (ho : ∀ u ∈ vs, u.oneCell' = true) (agg : Bool) {n off : Nat} (hn : agg = false → n = 1) (hl : off + n ≤ r.length) :
  Rep c es (loadAV agg n r off) (if agg then .agg ((vs.drop off).take n).toArray else ((vs.drop off).take n).getD 0 undef) := by
 cases agg with
 | true =>
  simp only [loadAV, if_true, Rep]
  exact ⟨_, rfl, by simpa using (h.drop off).take n, fun u hu => ho u (List.mem_of_mem_drop (List.mem_of_mem_take (by simpa using hu)))⟩
 | false =>
  have := hn rfl
  subst this
  simp only [loadAV, Bool.false_eq_true, if_false]
  have h2 := h.get off
  rwa [show ((vs.drop off).take 1).getD 0 undef = vs.getD off undef by simp [List.getD, List.getElem?_take, List.getElem?_drop]]
theorem rep_ptr {c : Core} {id s i off e sz : Nat} {rows : List (List AV)} {v : Value} (h : Rep c (some es) (.ptr id s i off) v) (he : at_ es id = some (.row s e sz rows)) : ∃ gb cap, c.phi id = some (gb, cap) ∧ v = .pointer (some ⟨gb, i * sz + off, none⟩) := by
 simp only [Rep] at h
 obtain ⟨es', h1, _, _, h2⟩ := h
 injection h1 with h1
 subst h1
 exact h2 _ _ _ he
theorem rep_own {c : Core} {id s e sz : Nat} {rows : List (List AV)} {v : Value} (h : Rep c (some es) (.own id s) v) (he : at_ es id = some (.row s e sz rows)) : v = ownVal (c.phi id) rows.length := by
 simp only [Rep] at h
 obtain ⟨es', h1, _, _, h2⟩ := h
 injection h1 with h1
 subst h1
 exact h2 _ _ _ he
theorem o_load_ptr {t : TypeId} {agg : Bool} {n id s i off e sz : Nat} {rows : List (List AV)} {r : List AV} (hx : ev f x = .ptr id s i off) (he : at_ es id = some (.row s e sz rows)) (hr : rows[i]? = some r)
  (ht : tyB P t agg n = true) (hn : agg = false → n = 1) (hl : off + n ≤ r.length) (ha : loadAV agg n r off = a) (k : K (upd f d a) es) (hd : Nat.blt d N = true := by rfl) : AOp P w0 N ⟨some d, .load t x, ty, pos, aft, g⟩ f es K := by
 refine op_look hd (fun c A ok rf => ?_) k
 have h := rep_ev rf x
 rw [hx] at h
 obtain ⟨gb, cap, hp, hv⟩ := rep_ptr h he
 obtain ⟨xs, cur, h4, _, _, _, _, _, h5⟩ := own_cells ok he hp
 obtain ⟨g1, g2, g3⟩ := h4.get i r hr
 have hlen : ((xs.drop (i * sz)).take sz).length = sz := by rw [List.length_take, List.length_drop]; omega
 have hrun := run_loadVar (P := P) ht hn (w := c.w) (b := gb) (k := i * sz + off) (vs := ((((xs.drop (i * sz)).take sz).drop off).take n)) (by rw [List.length_take, List.length_drop, hlen]; omega)
  (fun j u hj => by
   rw [List.getElem?_take] at hj
   split at hj
   ·rw [List.getElem?_drop, List.getElem?_take] at hj
    split at hj
    ·rw [List.getElem?_drop] at hj
     rw [Nat.add_assoc]
     exact h5 _ u hj
    ·cases hj
   ·cases hj)
 refine ⟨_, ?_, ha ▸ rep_load g3 (fun u hu => h4.one u (List.mem_of_mem_drop (List.mem_of_mem_take hu))) agg hn hl⟩
 simp only [execOp, hv, Instr.loadAt, Instr.sureAddr, Sem.run_bind, Sem.run_pure, Result.andThen_ok, hrun]
theorem o_load_fptr {t : TypeId} {agg : Bool} {n i off sz : Nat} {rows : List (List AV)} {r : List AV} (hx : ev f x = .fptr sz rows i off) (hr : rows[i]? = some r)
  (ht : tyB P t agg n = true) (hn : agg = false → n = 1) (hl : off + n ≤ r.length) (ha : loadAV agg n r off = a) (k : K (upd f d a) es) (hd : Nat.blt d N = true := by rfl) : AOp P w0 N ⟨some d, .load t x, ty, pos, aft, g⟩ f es K := by
 refine op_look hd (fun c A ok rf => ?_) k
 have h := rep_ev rf x
 rw [hx] at h
 simp only [Rep] at h
 obtain ⟨b, o, xs, hv, h4, hb, h5⟩ := h
 obtain ⟨g1, g2, g3⟩ := h4.get i r hr
 have hlen : ((xs.drop (i * sz)).take sz).length = sz := by rw [List.length_take, List.length_drop]; omega
 have hrun := run_loadVar (P := P) ht hn (w := c.w) (b := b) (k := o + (i * sz + off)) (vs := ((((xs.drop (i * sz)).take sz).drop off).take n)) (by rw [List.length_take, List.length_drop, hlen]; omega)
  (fun j u hj => by
   rw [List.getElem?_take] at hj
   split at hj
   ·rw [List.getElem?_drop, List.getElem?_take] at hj
    split at hj
    ·rw [List.getElem?_drop] at hj
     rw [show o + (i * sz + off) + j = o + (i * sz + (off + j)) by omega, h5 _ (List.getElem?_eq_some_iff.1 hj).1]
     exact hj
    ·cases hj
   ·cases hj)
 refine ⟨_, ?_, ha ▸ (rep_load g3 (fun u hu => h4.one u (List.mem_of_mem_drop (List.mem_of_mem_take hu))) agg hn hl).up _⟩
 simp only [execOp, hv, Instr.loadAt, Instr.sureAddr, Sem.run_bind, Sem.run_pure, Result.andThen_ok, hrun]

/-- The cells of a value that may be stored. -/
def cellsAV : AV → Option (List AV)
 | .agg l => some l
 | .any => none
 | .tup _ => none
 | .raw v => if v.oneCell' then some [.raw v] else none
 | a => some [a]
theorem rep_cells {c : Core} {m : Option (List Ent)} {a : AV} {v : Value} (h : Rep c m a v) {l : List AV} (hl : cellsAV a = some l) : Reps c m l v.cells.toList ∧ ∀ x ∈ v.cells.toList, x.oneCell' = true := by
 have one : ∀ {a : AV}, Rep c m a v → v.cells = #[v] → v.oneCell' = true → Reps c m [a] v.cells.toList ∧ ∀ x ∈ v.cells.toList, x.oneCell' = true := by
  intro a h e h1
  rw [e]
  simp only [Reps]
  exact ⟨⟨v, [], rfl, h, rfl⟩, by simpa using h1⟩
 cases a with
 | agg l' =>
  simp only [cellsAV] at hl
  injection hl with hl
  subst hl
  simp only [Rep] at h
  obtain ⟨cs, rfl, h1, h2⟩ := h
  exact ⟨h1, h2⟩
 | any => simp [cellsAV] at hl
 | tup l' => simp [cellsAV] at hl
 | raw u =>
  simp only [cellsAV] at hl
  split at hl
  ·rename_i ho
   injection hl with hl
   subst hl
   have e := h
   simp only [Rep] at e
   subst e
   refine one h ?_ ho
   cases v <;> first | rfl | (simp [Value.oneCell'] at ho)
  ·cases hl
 | bool b => simp only [cellsAV] at hl; injection hl with hl; subst hl; have e := h; simp only [Rep] at e; subst e; exact one h rfl rfl
 | int k n => simp only [cellsAV] at hl; injection hl with hl; subst hl; have e := h; simp only [Rep] at e; subst e; exact one h rfl rfl
 | str s => simp only [cellsAV] at hl; injection hl with hl; subst hl; have e := h; simp only [Rep] at e; subst e; exact one h rfl rfl
 | nil => simp only [cellsAV] at hl; injection hl with hl; subst hl; have e := h; simp only [Rep] at e; subst e; exact one h rfl rfl
 | list sz rows => simp only [cellsAV] at hl; injection hl with hl; subst hl; have e := h; simp only [Rep] at e; obtain ⟨_, _, _, rfl, _⟩ := e; exact one h rfl rfl
 | own id s => simp only [cellsAV] at hl; injection hl with hl; subst hl; have e := h; simp only [Rep] at e; obtain ⟨_, _, ⟨_, _, _, rfl⟩, _⟩ := e; exact one h rfl rfl
 | ptr id s i off => simp only [cellsAV] at hl; injection hl with hl; subst hl; have e := h; simp only [Rep] at e; obtain ⟨_, _, ⟨_, rfl⟩, _⟩ := e; exact one h rfl rfl
 | fptr sz rows i off => simp only [cellsAV] at hl; injection hl with hl; subst hl; have e := h; simp only [Rep] at e; obtain ⟨_, _, _, rfl, _⟩ := e; exact one h rfl rfl
 | tail id s k sz => simp only [cellsAV] at hl; injection hl with hl; subst hl; have e := h; simp only [Rep] at e; obtain ⟨_, _, ⟨_, _, _, rfl⟩, _⟩ := e; exact one h rfl rfl
 | mp id s => simp only [cellsAV] at hl; injection hl with hl; subst hl; have e := h; simp only [Rep] at e; obtain ⟨_, _, ⟨_, rfl⟩, _⟩ := e; exact one h rfl rfl
 | fn _ _ _ => simp only [cellsAV] at hl; injection hl with hl; subst hl; have e := h; simp only [Rep] at e; obtain ⟨_, _, rfl, _⟩ := e; exact one h rfl rfl
end
end
section
open Go.RowKit

/-- Entry id of the stack is x; C puts another in its place. -/
def Loc (es : List Ent) (id : Nat) (x : Ent) (C : Ent → List Ent) : Prop := at_ es id = some x ∧ ∀ y, setAt es id y = C y
theorem loc_hit {x : Ent} {t : List Ent} : Loc (x :: t) t.length x (fun y => y :: t) := ⟨at_hit x t, fun y => setAt_hit x y t⟩
theorem loc_miss {z x : Ent} {t : List Ent} {id : Nat} {C : Ent → List Ent} (h : Loc t id x C) : Loc (z :: t) id x (fun y => z :: C y) :=
 ⟨at_miss z h.1, fun y => by rw [setAt_miss z y (at_lt h.1), h.2]⟩
theorem loc_base {x : Ent} {t : List Ent} {id : Nat} (h : at_ t id = some x) : Loc t id x (setAt t id) := ⟨h, fun _ => rfl⟩

theorem splice_eq {α : Type} (xs new : List α) (b off sz : Nat) (hf : off + new.length ≤ sz) (hl : b + sz ≤ xs.length) :
  xs.take (b + off) ++ new ++ xs.drop (b + off + new.length) = xs.take b ++ (((xs.drop b).take sz).take off ++ new ++ ((xs.drop b).take sz).drop (off + new.length)) ++ xs.drop (b + sz) := by
 rw [List.take_add, List.take_take, Nat.min_eq_left (by omega : off ≤ sz)]
 have h2 : xs.drop (b + off + new.length) = ((xs.drop b).take sz).drop (off + new.length) ++ xs.drop (b + sz) := by
  have h3 : xs.drop b = (xs.drop b).take sz ++ xs.drop (b + sz) := by
   rw [← List.drop_drop]
   exact (List.take_append_drop sz (xs.drop b)).symm
  rw [show b + off + new.length = b + (off + new.length) by omega, ← List.drop_drop, h3, List.drop_append_of_le_length (by rw [List.length_take, List.length_drop]; omega)]
  congr 1
  rw [← h3]
 rw [h2]
 simp only [List.append_assoc]

section
variable {P : Program} {w0 : World} {N : Nat} {f : Frame} {es : List Ent} {K : Frame → List Ent → Prop}
variable {d : Nat} {ty : TypeId} {pos : String} {aft : Array Edge} {g : Option (Nat × Bool)} {x y z : Operand} {a : AV}

/-- An operation that yields nothing. -/
theorem op_skip {o : Oper} (hd : dok N o.dst = true) (h : ∀ c A, Ok w0 c es → RepF N c es f A → ∃ c' es', (execOp A.eval o).run P c.w = .ok .skip c'.w ∧ Ext c es c' es' ∧ Ok w0 c' es' ∧ K (put f o.dst .any) es') : AOp P w0 N o f es K := by
 intro c A next Q ok rf hn
 obtain ⟨c', es', hr, x, ok', k⟩ := h c A ok rf
 simp only [Oper.wp, hr, Oper.upon]
 exact hn c' es' _ _ x ok' ((rf.ext x).put hd (by simp only [Rep])) k

theorem take_splice {α : Type} (xs new tl : List α) (k : Nat) (h : k + new.length ≤ xs.length) : ((xs ++ tl).take k ++ new ++ (xs ++ tl).drop (k + new.length)).take xs.length = xs.take k ++ new ++ xs.drop (k + new.length) := by
 have h1 : (xs ++ tl).take k = xs.take k := List.take_append_of_le_length (by omega)
 have h2 : (xs ++ tl).drop (k + new.length) = xs.drop (k + new.length) ++ tl := List.drop_append_of_le_length (by omega)
 rw [h1, h2, ← List.append_assoc]
 exact List.take_left' (by simp only [List.length_append, List.length_take, List.length_drop]; omega)

theorem o_store {t : TypeId} {agg : Bool} {n id s i off e sz : Nat} {rows : List (List AV)} {r l r' : List AV} {C : Ent → List Ent} (hx : ev f x = .ptr id s i off) (hy : ev f y = a) (he : Loc es id (.row s e sz rows) C) (hr : rows[i]? = some r)
  (ht : tyB P t agg n = true) (hc : cellsAV a = some l) (hn : l.length = n) (hl : off + n ≤ r.length) (hr' : r.take off ++ l ++ r.drop (off + n) = r') (k : K f (C (.row s e sz (rows.set i r')))) : AOp P w0 N ⟨none, .store t x y, ty, pos, aft, g⟩ f es K := by
 refine op_skip rfl fun c A ok rf => ?_
 have h := rep_ev rf x
 rw [hx] at h
 obtain ⟨gb, cap, hp, hv⟩ := rep_ptr h he.1
 have hu := rep_ev rf y
 rw [hy] at hu
 obtain ⟨hcs, hone⟩ := rep_cells hu hc
 obtain ⟨xs, cur, h4, hheap, hcap, hcm, hsz, htake, h5⟩ := own_cells ok he.1 hp
 obtain ⟨g1, g2, g3⟩ := h4.get i r hr
 have hxl := h4.length
 have hi : i < rows.length := (List.getElem?_eq_some_iff.1 hr).1
 have hvl : (A.eval y).cells.toList.length = n := hcs.length.trans hn
 have hxl2 : rows.length * sz ≤ cur.toList.length := by rw [Array.length_toList (xs := cur), hsz]; exact Nat.mul_le_mul_right _ hcap
 have hcur : cur.toList = xs ++ cur.toList.drop (rows.length * sz) := by rw [← htake]; exact (List.take_append_drop _ _).symm
 have hfit : off + n ≤ sz := by omega
 have hst := run_storeCells_at P gb (i * sz + off) e (A.eval y).cells.toList 0 cur c.w hheap (by rw [hvl]; have := Array.length_toList (xs := cur); omega) hone
 simp only [Nat.add_zero] at hst
 have hnew : ((cur.toList.take (i * sz + off) ++ (A.eval y).cells.toList ++ cur.toList.drop (i * sz + off + (A.eval y).cells.toList.length)).take (rows.length * sz)) =
   xs.take (i * sz) ++ (((xs.drop (i * sz)).take sz).take off ++ (A.eval y).cells.toList ++ ((xs.drop (i * sz)).take sz).drop (off + n)) ++ xs.drop (i * sz + sz) := by
  have h6 := splice_eq xs (A.eval y).cells.toList (i * sz) off sz (by omega) g2
  rw [hvl] at h6 ⊢
  rw [← h6]
  have h7 := take_splice xs (A.eval y).cells.toList (cur.toList.drop (rows.length * sz)) (i * sz + off) (by omega)
  rw [← hcur, hvl, hxl] at h7
  exact h7
 have hrow : Reps c (some es) r' (((xs.drop (i * sz)).take sz).take off ++ (A.eval y).cells.toList ++ ((xs.drop (i * sz)).take sz).drop (off + n)) := by
  rw [← hr']
  exact ((g3.take off).append hcs).append (g3.drop (off + n))
 have hr'l : r'.length = sz := by
  rw [← hr']
  simp only [List.length_append, List.length_take, List.length_drop]
  omega
 have hrows := h4.set i r' _ hi hr'l hrow (fun u hu => by
  rcases List.mem_append.1 hu with hu | hu
  ·rcases List.mem_append.1 hu with hu | hu
   ·exact h4.one u (List.mem_of_mem_drop (List.mem_of_mem_take (List.mem_of_mem_take hu)))
   ·exact hone u hu
  ·exact h4.one u (List.mem_of_mem_drop (List.mem_of_mem_take (List.mem_of_mem_drop hu))))
 have hgr : c.w.grownBy (c.w.setRow gb (cur.toList.take (i * sz + off) ++ (A.eval y).cells.toList ++ cur.toList.drop (i * sz + off + (A.eval y).cells.toList.length)).toArray) (ownVal (c.phi id) rows.length).ownBlock := by
  rw [hp]
  exact ⟨rfl, rfl, rfl, by simp, fun k _ hk => setRow_other c.w gb k _ (fun e => hk (by rw [own_block_some, e]))⟩
 have hown : (c.w.setRow gb (cur.toList.take (i * sz + off) ++ (A.eval y).cells.toList ++ cur.toList.drop (i * sz + off + (A.eval y).cells.toList.length)).toArray).ownsRow 0 e sz (ownVal (some (gb, cap)) (rows.set i r').length) (rows.set i r').length _ :=
  ⟨by rw [hrows.length], .inr ⟨gb, cap, _, by rw [List.length_set]; rfl, Nat.zero_le _, setRow_heap c.w gb cur _ e _ hheap, by rw [List.length_set]; exact hcap, hcm, by
   simp only [List.size_toArray, List.length_append, List.length_take, List.length_drop, hvl]
   have := Array.length_toList (xs := cur)
   rw [← hsz, ← this]
   omega, by rw [List.length_set]; exact hnew⟩⟩
 have hm := (ok.ent id _ he.1).2.1
 refine ⟨c.turn _ id (some (gb, cap)), setAt es id (.row s e sz (rows.set i r')), ?_, ext_turn ok he.1 hgr (.inr ⟨rfl, by simp, hp.symm⟩), ok_turn ok he.1 hgr (.inr ⟨rfl, by simp, hp.symm⟩) (.inl (by rw [hp]; rfl)) (by simpa using hm) hrows hown, ?_⟩
 ·show (execOp A.eval _).run P c.w = .ok .skip (c.w.setRow gb _)
  have hcs : (A.eval y).cells.size = n := by rw [← Array.length_toList]; exact hvl
  simp only [execOp, hv, Instr.storeAt, Instr.sureAddr, storeVar, Sem.run_bind, Sem.run_pure, Result.andThen_ok, run_sizeOf ht, hcs, ne_eq, not_true_eq_false, if_false, hst]
 ·rw [he.2]
  exact k
end
end
section
open Go.RowKit
section
variable {P : Program} {w0 : World} {N : Nat} {f : Frame} {es : List Ent} {K : Frame → List Ent → Prop}
variable {d : Nat} {ty : TypeId} {pos : String} {aft : Array Edge} {g : Option (Nat × Bool)} {x y z : Operand} {a : AV}

theorem rep_new_ptr {c : Core} {cells : Array Value} {e sz cap : Nat} {rows : List (List AV)} :
  Rep (c.alloc es cells e cap) (some (.row c.now e sz rows :: es)) (.ptr es.length c.now 0 0) (.pointer (some ⟨c.w.heap.size, 0, none⟩)) := by
 simp only [Rep]
 refine ⟨_, rfl, ⟨_, rfl⟩, Nat.lt_succ_self _, fun e' sz' rows' h => ?_⟩
 rw [at_hit] at h
 injection h with h
 injection h with _ _ h3 _
 subst h3
 exact ⟨c.w.heap.size, cap, by simp [Core.alloc], by simp⟩
theorem rep_new_own {c : Core} {cells : Array Value} {e sz : Nat} {rows : List (List AV)} :
  Rep (c.alloc es cells e rows.length) (some (.row c.now e sz rows :: es)) (.own es.length c.now) (.slice (some ⟨c.w.heap.size, 0, none⟩) rows.length rows.length) := by
 simp only [Rep]
 refine ⟨_, rfl, ⟨_, _, _, rfl⟩, Nat.lt_succ_self _, fun e' sz' rows' h => ?_⟩
 rw [at_hit] at h
 injection h with h
 injection h with _ _ _ h3
 subst h3
 simp [Core.alloc, ownVal]
theorem reps_const (c : Core) (m : Option (List Ent)) : ∀ vs : List Value, Reps c m (vs.map ofConst) vs
 | [] => rfl
 | v :: vs => ⟨v, vs, rfl, rep_const c m v, reps_const c m vs⟩
theorem zero_run {t : TypeId} {l : List AV} (h : zeroAVs P t = some l) (w : World) : ∃ z, (zeroValue t).run P w = .ok z w ∧ z.cells.toList.map ofConst = l ∧ ∀ u ∈ z.cells.toList, u.oneCell' = true := by
 unfold zeroAVs at h
 split at h
 ·rename_i z hz
  split at h
  ·rename_i ha
   injection h with h
   obtain ⟨i, hi, hiz⟩ := Option.bind_eq_some_iff.1 hz
   refine ⟨z, ?_, h, fun u hu => List.all_eq_true.1 ha u hu⟩
   simp [zeroValue, typeInfo, hi, hiz]
  ·cases h
 ·cases h
theorem o_alloc {t : TypeId} {l : List AV} (hz : zeroAVs P t = some l) (k : ∀ s, K (upd f d (.ptr es.length s 0 0)) (.row s t l.length [l] :: es)) (hd : Nat.blt d N = true := by rfl) : AOp P w0 N ⟨some d, .alloc t, ty, pos, aft, g⟩ f es K := by
 refine op_run hd fun c A ok rf => ?_
 obtain ⟨zv, hrun, hl, hone⟩ := zero_run hz c.w
 have hr : Reps c (some es) l zv.cells.toList := hl ▸ reps_const c _ _
 refine ⟨.pointer (some ⟨c.w.heap.size, 0, none⟩), c.alloc es zv.cells t 1, .row c.now t l.length [l] :: es, .ptr es.length c.now 0 0, ?_, ext_alloc ok _ _ _ _ _, ok_alloc ok _ _ _ [l] (RepRows.single hr hone rfl) (by simp [most]), rep_new_ptr, k c.now⟩
 simp [execOp, Instr.alloc, hrun, newVar, newRow, Core.alloc]
theorem o_box {t : TypeId} {l : List AV} (hx : ev f x = a) (hc : cellsAV a = some l) (k : ∀ s, K (upd f d (.ptr es.length s 0 0)) (.row s t l.length [l] :: es)) (hd : Nat.blt d N = true := by rfl) : AOp P w0 N ⟨some d, .box t x, ty, pos, aft, g⟩ f es K := by
 refine op_run hd fun c A ok rf => ?_
 have h := rep_ev rf x
 rw [hx] at h
 obtain ⟨hr, hone⟩ := rep_cells h hc
 refine ⟨.pointer (some ⟨c.w.heap.size, 0, none⟩), c.alloc es (A.eval x).cells t 1, .row c.now t l.length [l] :: es, .ptr es.length c.now 0 0, ?_, ext_alloc ok _ _ _ _ _, ok_alloc ok _ _ _ [l] (RepRows.single hr hone rfl) (by simp [most]), rep_new_ptr, k c.now⟩
 simp [execOp, Instr.box, newVar, newRow, Core.alloc]

/-! ### what is built -/
def fillAV (place : Nat → Option (Nat × Nat)) (cells : List AV) : List (Nat × AV) → Option (List AV)
 | [] => some cells
 | (i, v) :: rest =>
  match place i, cellsAV v with
  | some (off, size), some l => if l.length = size ∧ off + size ≤ cells.length then fillAV place (cells.take off ++ l ++ cells.drop (off + size)) rest else none
  | _, _ => none
theorem set_many : ∀ (vs : List Value) (off k : Nat) (cells : Array Value), off + k + vs.length ≤ cells.size → ((vs.zipIdx k).foldl (fun cs (x : Value × Nat) => cs.setIfInBounds (off + x.2) x.1) cells).toList = cells.toList.take (off + k) ++ vs ++ cells.toList.drop (off + k + vs.length)
 | [], off, k, cells, h => by simp
 | v :: vs, off, k, cells, h => by
  simp only [List.zipIdx_cons, List.foldl_cons]
  simp only [List.length_cons] at h
  rw [set_many vs off (k + 1) _ (by simp; omega)]
  simp only [Array.toList_setIfInBounds, List.length_cons]
  have hlt : off + k < cells.toList.length := by simp; omega
  apply List.ext_getElem?
  intro j
  simp only [List.getElem?_append, List.length_append, List.length_take, List.length_set, List.getElem?_take, List.getElem?_drop, List.getElem?_set, List.getElem?_cons, List.length_cons]
  have : cells.toList.length = cells.size := Array.length_toList
  by_cases h1 : j < off + k
  ·rw [if_pos (by omega), if_pos (by omega), if_pos (by omega), if_neg (by omega), if_pos (by omega), if_pos (by omega), if_pos h1]
  ·by_cases h2 : j = off + k
   ·subst h2
    rw [if_pos (by omega), if_pos (by omega), if_pos (by omega), if_pos rfl, if_pos (by omega), if_pos (by omega), if_neg (by omega), if_pos (by omega)]
   ·by_cases h3 : j < off + k + 1 + vs.length
    ·rw [if_pos (by omega), if_neg (by omega), if_pos (by omega), if_neg (by omega), if_neg (by omega)]
     congr 1 <;> omega
    ·rw [if_neg (by omega), if_neg (by omega), if_neg (by omega)]
     congr 1 <;> omega
theorem rep_fill {c : Core} {m : Option (List Ent)} {place : Nat → Option (Nat × Nat)} : ∀ {parts : List (Nat × AV)} {vparts : List (Nat × Value)} {cells : List AV} {vcells : Array Value} {l : List AV},
  parts.map (·.1) = vparts.map (·.1) → (∀ j, j < parts.length → Rep c m (parts.getD j (0, .any)).2 (vparts.getD j (0, undef)).2) → Reps c m cells vcells.toList → (∀ u ∈ vcells.toList, u.oneCell' = true) →
  fillAV place cells parts = some l → ∃ vl, Instr.fill place vcells vparts = some vl ∧ Reps c m l vl.toList ∧ ∀ u ∈ vl.toList, u.oneCell' = true
 | [], vp, cells, vcells, l, hm, _, hr, ho, hf => by
  cases vp with
  | cons p vp => simp at hm
  | nil =>
   simp only [fillAV] at hf
   injection hf with hf
   subst hf
   exact ⟨vcells, rfl, hr, ho⟩
 | (i, v) :: parts, vp, cells, vcells, l, hm, hp, hr, ho, hf => by
  cases vp with
  | nil => simp at hm
  | cons p vp =>
   obtain ⟨i', u⟩ := p
   simp only [List.map_cons, List.cons.injEq] at hm
   obtain ⟨rfl, hm⟩ := hm
   have h0 := hp 0 (by simp)
   simp only [List.getD_cons_zero] at h0
   simp only [fillAV] at hf
   split at hf
   ·rename_i off size lv hpl hcl
    split at hf
    ·rename_i hcond
     obtain ⟨h1, h2⟩ := rep_cells h0 hcl
     have hvl : u.cells.toList.length = size := h1.length.trans hcond.1
     have hcl2 := hr.length
     have hsz : vcells.toList.length = vcells.size := Array.length_toList
     have hus : u.cells.toList.length = u.cells.size := Array.length_toList
     have hset := set_many u.cells.toList off 0 vcells (by omega)
     have hset' : (u.cells.zipIdx.foldl (fun cs (x : Value × Nat) => cs.setIfInBounds (off + x.2) x.1) vcells).toList = vcells.toList.take off ++ u.cells.toList ++ vcells.toList.drop (off + size) := by
      rw [← Array.foldl_toList, Array.toList_zipIdx, hset, Nat.add_zero, hvl]
     obtain ⟨vl, e1, e2, e3⟩ := rep_fill (parts := parts) (vparts := vp) (vcells := u.cells.zipIdx.foldl (fun cs (x : Value × Nat) => cs.setIfInBounds (off + x.2) x.1) vcells) hm
      (fun j hj => by have := hp (j + 1) (by simp; omega); simpa using this)
      (by rw [hset']; exact ((hr.take off).append h1).append (hr.drop (off + size)))
      (fun q hq => by
       rw [hset'] at hq
       rcases List.mem_append.1 hq with hq | hq
       ·rcases List.mem_append.1 hq with hq | hq
        ·exact ho q (List.mem_of_mem_take hq)
        ·exact h2 q hq
       ·exact ho q (List.mem_of_mem_drop hq)) hf
     refine ⟨vl, ?_, e2, e3⟩
     simp only [Instr.fill, hpl]
     rw [if_neg (by simp; omega)]
     exact e1
    ·cases hf
   ·cases hf
def placesOf (P : Program) (t : TypeId) : Option (List (Nat × Nat)) :=
 match P.underlying t with
 | some (.struct fs) => fs.toList.mapM fun f => (P.info? f.type).map fun i => (f.offset, i.size)
 | _ => none
theorem run_places {fs : Array Field} : ∀ {l : List Field} {q : List (Nat × Nat)}, (l.mapM fun f => (P.info? f.type).map fun i => (f.offset, i.size)) = some q → ∀ w : World, ((l.mapM fun f => do pure (f.offset, ← sizeOf f.type) : Sem (List (Nat × Nat)))).run P w = .ok q w
 | [], q, h, w => by simp at h; subst h; simp
 | f :: l, q, h, w => by
  simp only [List.mapM_cons, Option.bind_eq_bind, Option.bind_eq_some_iff, Option.map_eq_some_iff, Option.pure_def, Option.some.injEq] at h
  obtain ⟨p, ⟨i, hi, rfl⟩, q', hq', rfl⟩ := h
  have ih := run_places (fs := fs) hq' w
  have h1 : (do pure (f.offset, ← sizeOf f.type) : Sem (Nat × Nat)).run P w = .ok (f.offset, i.size) w := by simp [sizeOf, typeInfo, hi]
  rw [List.mapM_cons]
  rw [Sem.run_bind, h1, Result.andThen_ok, Sem.run_bind, ih, Result.andThen_ok, Sem.run_pure]
theorem mapped {c : Core} {A : Act} (rf : RepF N c es f A) (parts : List (Nat × Operand)) : ∀ j, j < (parts.map fun p => (p.1, ev f p.2)).length → Rep c (some es) ((parts.map fun p => (p.1, ev f p.2)).getD j (0, .any)).2 ((parts.map fun p => (p.1, A.eval p.2)).getD j (0, undef)).2 := by
 intro j hj
 simp only [List.length_map] at hj
 simp only [List.getD, List.getElem?_map, List.getElem?_eq_getElem hj, Option.map_some, Option.getD_some]
 exact rep_ev rf _
theorem o_build {t : TypeId} {zl l : List AV} {q : List (Nat × Nat)} {parts : List (Nat × Operand)} (hz : zeroAVs P t = some zl) (hq : placesOf P t = some q) (hl : fillAV (q[·]?) zl (parts.map fun p => (p.1, ev f p.2)) = some l)
  (k : K (upd f d (.agg l)) es) (hd : Nat.blt d N = true := by rfl) : AOp P w0 N ⟨some d, .build t parts.toArray, ty, pos, aft, g⟩ f es K := by
 refine op_look hd (fun c A ok rf => ?_) k
 obtain ⟨zv, hrun, hzl, hone⟩ := zero_run hz c.w
 obtain ⟨vl, h1, h2, h3⟩ := rep_fill (c := c) (m := some es) (place := (q[·]?)) (parts := parts.map fun p => (p.1, ev f p.2)) (vparts := parts.map fun p => (p.1, A.eval p.2)) (vcells := zv.cells) (by simp) (mapped rf parts) (hzl ▸ reps_const c _ _) hone hl
 refine ⟨.agg vl, ?_, by simp only [Rep]; exact ⟨vl, rfl, h2, h3⟩⟩
 unfold placesOf at hq
 split at hq
 ·rename_i fs hu
  have hpl := run_places (fs := fs) hq c.w
  have hpl' : ((fs.mapM fun f => do pure (f.offset, ← sizeOf f.type) : Sem (Array (Nat × Nat)))).run P c.w = .ok q.toArray c.w := by
   rw [Array.mapM_eq_mapM_toList]
   simp only [Sem.run_map, hpl, Result.andThen_ok]
  simp only [execOp, Instr.build, Sem.run_bind, hrun, Result.andThen_ok, run_underlying hu, hpl', List.map_toArray, Sem.run_pure]
  simp only [List.getElem?_toArray, h1, Sem.run_pure, Result.andThen_ok]
 ·cases hq
theorem o_build_arr {t n e sz : Nat} {zl l : List AV} {parts : List (Nat × Operand)} (hz : zeroAVs P t = some zl) (hq : arrB P t n e sz = true) (hl : fillAV (fun i => some (i * sz, sz)) zl (parts.map fun p => (p.1, ev f p.2)) = some l)
  (k : K (upd f d (.agg l)) es) (hd : Nat.blt d N = true := by rfl) : AOp P w0 N ⟨some d, .build t parts.toArray, ty, pos, aft, g⟩ f es K := by
 refine op_look hd (fun c A ok rf => ?_) k
 obtain ⟨zv, hrun, hzl, hone⟩ := zero_run hz c.w
 obtain ⟨vl, h1, h2, h3⟩ := rep_fill (c := c) (m := some es) (place := fun i => some (i * sz, sz)) (parts := parts.map fun p => (p.1, ev f p.2)) (vparts := parts.map fun p => (p.1, A.eval p.2)) (vcells := zv.cells) (by simp) (mapped rf parts) (hzl ▸ reps_const c _ _) hone hl
 refine ⟨.agg vl, ?_, by simp only [Rep]; exact ⟨vl, rfl, h2, h3⟩⟩
 unfold arrB at hq
 split at hq
 ·rename_i n' e' i hu hi
  simp only [Bool.and_eq_true, beq_iff_eq] at hq
  obtain ⟨⟨rfl, rfl⟩, rfl⟩ := hq
  simp only [execOp, Instr.build, Sem.run_bind, hrun, Result.andThen_ok, run_underlying hu, List.map_toArray, Sem.run_pure, sizeOf, typeInfo, Sem.run_bind, run_program, hi, h1]
 ·cases hq
end
end
section
open Go.RowKit
section
variable {P : Program} {w0 : World} {N : Nat} {f : Frame} {es : List Ent} {K : Frame → List Ent → Prop}
variable {d : Nat} {ty : TypeId} {pos : String} {aft : Array Edge} {g : Option (Nat × Bool)} {x y z : Operand} {a : AV}

/-! ### numbers, bools, strings -/
theorem ev_int {c : Core} {A : Act} (rf : RepF N c es f A) {k : IntKind} {n : Int} (hx : ev f x = .int k n) : A.eval x = .int k n := by
 have h := rep_ev rf x
 rw [hx] at h
 simpa only [Rep] using h
theorem ev_bool {c : Core} {A : Act} (rf : RepF N c es f A) {b : Bool} (hx : ev f x = .bool b) : A.eval x = .bool b := by
 have h := rep_ev rf x
 rw [hx] at h
 simpa only [Rep] using h
def cmpI : BinOp → Int → Int → Option Bool
 | .eql, a, b => some (decide (a = b))
 | .neq, a, b => some (!decide (a = b))
 | .lss, a, b => some (decide (a < b))
 | .leq, a, b => some (decide (a ≤ b))
 | .gtr, a, b => some (decide (a > b))
 | .geq, a, b => some (decide (a ≥ b))
 | _, _, _ => none
theorem run_eqGuard_int {op : BinOp} {t : TypeId} {k k' : IntKind} {m n : Int} {w : World} : (eqGuard op t x y (.int k m) (.int k' n)).run P w = .ok () w := by
 unfold eqGuard
 cases op <;> simp
theorem run_eqGuard_bool {op : BinOp} {t : TypeId} {m n : Bool} {w : World} : (eqGuard op t x y (.bool m) (.bool n)).run P w = .ok () w := by
 unfold eqGuard
 cases op <;> simp
theorem o_cmp {op : BinOp} {t u : TypeId} {k : IntKind} {m n : Int} {b : Bool} (hx : ev f x = .int k m) (hy : ev f y = .int k n) (hb : cmpI op m n = some b) (kk : K (upd f d (.bool b)) es) (hd : Nat.blt d N = true := by rfl) : AOp P w0 N ⟨some d, .binOp op t x y u, ty, pos, aft, g⟩ f es K := by
 refine op_look hd (fun c A ok rf => ⟨.bool b, ?_, by simp only [Rep]⟩) kk
 have h1 := ev_int rf hx
 have h2 := ev_int rf hy
 simp only [execOp, h1, h2, Sem.run_bind, run_eqGuard_int, Result.andThen_ok]
 cases op <;> simp only [cmpI] at hb <;> first | (cases hb; done) | (injection hb with hb; subst hb; simp [binOp, Op.intCmp]; done) | (injection hb with hb; subst hb; simp only [binOp, Op.intCmp, ne_eq, not_true_eq_false, if_false, Sem.run_pure, Result.andThen_ok]; rfl)
def arithI : BinOp → IntKind → Int → Int → Option Int
 | .add, k, a, b => some (k.wrap (a + b))
 | .sub, k, a, b => some (k.wrap (a - b))
 | .mul, k, a, b => some (k.wrap (a * b))
 | .quo, k, a, b => if b = 0 then none else some (k.wrap (a.tdiv b))
 | .rem, k, a, b => if b = 0 then none else some (a.tmod b)
 | .and, k, a, b => some (k.wrap (BitVec.ofInt k.bits a &&& BitVec.ofInt k.bits b).toNat)
 | .or, k, a, b => some (k.wrap (BitVec.ofInt k.bits a ||| BitVec.ofInt k.bits b).toNat)
 | .xor, k, a, b => some (k.wrap (BitVec.ofInt k.bits a ^^^ BitVec.ofInt k.bits b).toNat)
 | _, _, _, _ => none
theorem o_arith {op : BinOp} {t u : TypeId} {k : IntKind} {m n r : Int} (hx : ev f x = .int k m) (hy : ev f y = .int k n) (hb : arithI op k m n = some r) (kk : K (upd f d (.int k r)) es) (hd : Nat.blt d N = true := by rfl) : AOp P w0 N ⟨some d, .binOp op t x y u, ty, pos, aft, g⟩ f es K := by
  refine op_look hd (fun c A ok rf => ⟨.int k r, ?_, by simp only [Rep]⟩) kk
  have h1 := ev_int rf hx
  have h2 := ev_int rf hy
  simp only [execOp, h1, h2, Sem.run_bind, run_eqGuard_int, Result.andThen_ok]
  cases op <;> simp only [arithI] at hb <;> first
    | (cases hb; done)
    | (injection hb with hb; subst hb; simp [binOp, Op.intArith, Op.intBits])
    | (split at hb
       · cases hb
       · injection hb with hb; subst hb; rename_i hz; simp [binOp, Op.intDiv, hz])
theorem o_shl {t u : TypeId} {k k' : IntKind} {m n r : Int} (hx : ev f x = .int k m) (hy : ev f y = .int k' n) (hn : 0 ≤ n) (hb : k.wrap (m * 2 ^ (min n.toNat k.bits)) = r) (kk : K (upd f d (.int k r)) es) (hd : Nat.blt d N = true := by rfl) : AOp P w0 N ⟨some d, .binOp .shl t x y u, ty, pos, aft, g⟩ f es K := by
 refine op_look hd (fun c A ok rf => ⟨.int k r, ?_, by simp only [Rep]⟩) kk
 have h1 := ev_int rf hx
 have h2 := ev_int rf hy
 subst hb
 simp only [execOp, h1, h2, Sem.run_bind, run_eqGuard_int, Result.andThen_ok]
 simp [binOp, Op.shift, Int.not_lt.2 hn]
theorem o_shr {t u : TypeId} {k k' : IntKind} {m n r : Int} (hx : ev f x = .int k m) (hy : ev f y = .int k' n) (hn : 0 ≤ n) (hb : m.fdiv (2 ^ (min n.toNat k.bits)) = r) (kk : K (upd f d (.int k r)) es) (hd : Nat.blt d N = true := by rfl) : AOp P w0 N ⟨some d, .binOp .shr t x y u, ty, pos, aft, g⟩ f es K := by
 refine op_look hd (fun c A ok rf => ⟨.int k r, ?_, by simp only [Rep]⟩) kk
 have h1 := ev_int rf hx
 have h2 := ev_int rf hy
 subst hb
 simp only [execOp, h1, h2, Sem.run_bind, run_eqGuard_int, Result.andThen_ok]
 simp [binOp, Op.shift, Int.not_lt.2 hn]
theorem o_eqb {t u : TypeId} {m n b : Bool} (ht : P.underlying t = some .bool) (hx : ev f x = .bool m) (hy : ev f y = .bool n) (hb : (m == n) = b) (kk : K (upd f d (.bool b)) es) (hd : Nat.blt d N = true := by rfl) : AOp P w0 N ⟨some d, .binOp .eql t x y u, ty, pos, aft, g⟩ f es K := by
 refine op_look hd (fun c A ok rf => ⟨.bool b, ?_, by simp only [Rep]⟩) kk
 have h1 := ev_bool rf hx
 have h2 := ev_bool rf hy
 subst hb
 simp only [execOp, h1, h2, Sem.run_bind, run_eqGuard_bool, Result.andThen_ok]
 have h3 := run_equalIn_bool' (P := P) c.w 9999 t m n ht
 rw [show binOp .eql t (.bool m) (.bool n) = (do pure (.bool (← Op.equalIn (9999 + 1) t (.bool m) (.bool n)))) from rfl, Sem.run_bind, h3]
 rfl
theorem o_neb {t u : TypeId} {m n b : Bool} (ht : P.underlying t = some .bool) (hx : ev f x = .bool m) (hy : ev f y = .bool n) (hb : (m != n) = b) (kk : K (upd f d (.bool b)) es) (hd : Nat.blt d N = true := by rfl) : AOp P w0 N ⟨some d, .binOp .neq t x y u, ty, pos, aft, g⟩ f es K := by
 refine op_look hd (fun c A ok rf => ⟨.bool b, ?_, by simp only [Rep]⟩) kk
 have h1 := ev_bool rf hx
 have h2 := ev_bool rf hy
 subst hb
 simp only [execOp, h1, h2, Sem.run_bind, run_eqGuard_bool, Result.andThen_ok]
 have h3 := run_equalIn_bool' (P := P) c.w 9999 t m n ht
 rw [show binOp .neq t (.bool m) (.bool n) = (do pure (.bool (!(← Op.equalIn (9999 + 1) t (.bool m) (.bool n))))) from rfl, Sem.run_bind, h3]
 rfl
theorem o_not {t : TypeId} {m b : Bool} (hx : ev f x = .bool m) (hb : (!m) = b) (kk : K (upd f d (.bool b)) es) (hd : Nat.blt d N = true := by rfl) : AOp P w0 N ⟨some d, .unOp .not t x, ty, pos, aft, g⟩ f es K := by
 refine op_look hd (fun c A ok rf => ⟨.bool b, ?_, by simp only [Rep]⟩) kk
 have h1 := ev_bool rf hx
 subst hb
 simp [execOp, h1, Op.unary]
theorem o_neg {t : TypeId} {k : IntKind} {m r : Int} (hx : ev f x = .int k m) (hb : k.wrap (0 - m) = r) (kk : K (upd f d (.int k r)) es) (hd : Nat.blt d N = true := by rfl) : AOp P w0 N ⟨some d, .unOp .neg t x, ty, pos, aft, g⟩ f es K := by
 refine op_look hd (fun c A ok rf => ⟨.int k r, ?_, by simp only [Rep]⟩) kk
 have h1 := ev_int rf hx
 subst hb
 simp [execOp, h1, Op.unary, Op.intArith]
/-- The kind of a type of whole numbers. -/
def intB (P : Program) (t : TypeId) (k : IntKind) : Bool :=
 match P.underlying t with
 | some (.int k') => k' == k
 | _ => false
theorem o_conv {s t : TypeId} {k k' : IntKind} {m r : Int} (hx : ev f x = .int k m) (hs : (P.underlying s).isSome = true) (ht : intB P t k' = true) (hb : k'.wrap m = r) (kk : K (upd f d (.int k' r)) es) (hd : Nat.blt d N = true := by rfl) : AOp P w0 N ⟨some d, .convert s t x, ty, pos, aft, g⟩ f es K := by
 refine op_look hd (fun c A ok rf => ⟨.int k' r, ?_, by simp only [Rep]⟩) kk
 have h1 := ev_int rf hx
 subst hb
 unfold intB at ht
 split at ht
 ·rename_i k2 hu
  obtain rfl : k2 = k' := by simpa using ht
  obtain ⟨ds, hs⟩ := Option.isSome_iff_exists.1 hs
  simp only [execOp, h1, convert, Sem.run_bind, run_underlying hs, run_underlying hu, Result.andThen_ok]
  cases ds <;> simp [Conv.intToInt]
 ·cases ht

/-! ### places -/
theorem o_nilCheck_ptr {id s i off : Nat} (hx : ev f x = .ptr id s i off) (kk : K (upd f d (.ptr id s i off)) es) (hd : Nat.blt d N = true := by rfl) : AOp P w0 N ⟨some d, .nilCheck x, ty, pos, aft, g⟩ f es K := by
 refine op_look hd (fun c A ok rf => ?_) kk
 have h := rep_ev rf x
 rw [hx] at h
 have h' := h
 simp only [Rep] at h'
 obtain ⟨_, _, ⟨p, hp⟩, _⟩ := h'
 rw [hp] at h
 exact ⟨_, by simp [execOp, hp], h⟩
theorem o_nilCheck_fn {fn : FuncId} {l1 l2 : List AV} (hx : ev f x = .fn (.func fn) l1 l2) (kk : K (upd f d (.fn (.func fn) l1 l2)) es) (hd : Nat.blt d N = true := by rfl) : AOp P w0 N ⟨some d, .nilCheck x, ty, pos, aft, g⟩ f es K := by
 refine op_look hd (fun c A ok rf => ?_) kk
 have h := rep_ev rf x
 rw [hx] at h
 have h' := h
 simp only [Rep] at h'
 obtain ⟨_, _, hp, _⟩ := h'
 rw [hp] at h
 exact ⟨_, by simp [execOp, hp], h⟩
theorem add_eq (b o n : Nat) : (⟨b, o, none⟩ : Addr).add n = ⟨b, o + n, none⟩ := by unfold Addr.add; split <;> simp_all
theorem run_fieldAt {t : TypeId} {fl off : Nat} (hf : fieldB P t fl off = true) (p : Addr) (w : World) : (Instr.fieldAt t (.pointer (some p)) fl).run P w = .ok (.pointer (some (p.add off))) w := by
 unfold fieldB at hf
 split at hf
 ·rename_i fs hu
  split at hf
  ·rename_i fd hfd
   simp only [Bool.and_eq_true, beq_iff_eq] at hf
   obtain ⟨rfl, hf⟩ := hf
   split at hf
   ·rename_i i hi
    have hz : i.size ≠ 0 := by simpa using hf
    simp only [Instr.fieldAt, Sem.run_bind, run_underlying hu, Result.andThen_ok, hfd, Instr.sureAddr, Sem.run_pure, fieldPlace, sizeOf, typeInfo, run_program, hi, hz, if_false, Sem.run_ite]
   ·cases hf
  ·cases hf
 ·cases hf
/-- A place further on. -/
theorem rep_on {c : Core} {m : Option (List Ent)} {id s i o k : Nat} {p : Addr} (h : Rep c m (.ptr id s i o) (.pointer (some p))) : Rep c m (.ptr id s i (o + k)) (.pointer (some (p.add k))) := by
 simp only [Rep] at h ⊢
 obtain ⟨es', rfl, _, h2, h3⟩ := h
 refine ⟨es', rfl, ⟨_, rfl⟩, h2, fun e sz rows he => ?_⟩
 obtain ⟨gb, cap, hp, hv⟩ := h3 e sz rows he
 injection hv with hv
 injection hv with hv
 subst hv
 exact ⟨gb, cap, hp, by rw [add_eq, Nat.add_assoc]⟩
theorem rep_fon {c : Core} {m : Option (List Ent)} {sz i o k : Nat} {rows : List (List AV)} {p : Addr} (h : Rep c m (.fptr sz rows i o) (.pointer (some p))) : Rep c m (.fptr sz rows i (o + k)) (.pointer (some (p.add k))) := by
 simp only [Rep] at h ⊢
 obtain ⟨b, o', vs, hv, h2⟩ := h
 injection hv with hv
 injection hv with hv
 subst hv
 exact ⟨b, o', vs, by rw [add_eq, ← Nat.add_assoc, ← Nat.add_assoc, ← Nat.add_assoc], h2⟩
theorem shape_ptr {c : Core} {m : Option (List Ent)} {id s i o : Nat} {v : Value} (h : Rep c m (.ptr id s i o) v) : ∃ p, v = .pointer (some p) := by
 simp only [Rep] at h
 obtain ⟨_, _, hp, _⟩ := h
 exact hp
theorem shape_fptr {c : Core} {m : Option (List Ent)} {sz i o : Nat} {rows : List (List AV)} {v : Value} (h : Rep c m (.fptr sz rows i o) v) : ∃ p, v = .pointer (some p) := by
 simp only [Rep] at h
 obtain ⟨_, _, _, hp, _⟩ := h
 exact ⟨_, hp⟩
theorem o_fieldAddr_ptr {t : TypeId} {fl off id s i o : Nat} (hx : ev f x = .ptr id s i o) (hf : fieldB P t fl off = true) (ho : .ptr id s i (o + off) = a) (kk : K (upd f d a) es) (hd : Nat.blt d N = true := by rfl) : AOp P w0 N ⟨some d, .fieldAddr t x fl, ty, pos, aft, g⟩ f es K := by
 refine op_look hd (fun c A ok rf => ?_) kk
 have h := rep_ev rf x
 rw [hx] at h
 obtain ⟨p, hp⟩ := shape_ptr h
 rw [hp] at h
 exact ⟨_, by simp only [execOp, hp, Sem.run_bind, run_fieldAt hf, Result.andThen_ok, Sem.run_pure], ho ▸ rep_on h⟩
theorem o_fieldAddr_fptr {t : TypeId} {fl off sz i o : Nat} {rows : List (List AV)} (hx : ev f x = .fptr sz rows i o) (hf : fieldB P t fl off = true) (ho : .fptr sz rows i (o + off) = a) (kk : K (upd f d a) es) (hd : Nat.blt d N = true := by rfl) : AOp P w0 N ⟨some d, .fieldAddr t x fl, ty, pos, aft, g⟩ f es K := by
 refine op_look hd (fun c A ok rf => ?_) kk
 have h := rep_ev rf x
 rw [hx] at h
 obtain ⟨p, hp⟩ := shape_fptr h
 rw [hp] at h
 exact ⟨_, by simp only [execOp, hp, Sem.run_bind, run_fieldAt hf, Result.andThen_ok, Sem.run_pure], ho ▸ rep_fon h⟩
/-- The place of an array's element. -/
theorem o_indexAddr_arr {t : TypeId} {n e sz id s i o : Nat} {k : IntKind} {ix : Int} (hx : ev f x = .ptr id s i o) (hy : ev f y = .int k ix) (ht : arrB P t n e sz = true) (h0 : 0 ≤ ix) (h1 : ix < n) (ho : .ptr id s i (o + ix.toNat * sz) = a) (kk : K (upd f d a) es) (hd : Nat.blt d N = true := by rfl) : AOp P w0 N ⟨some d, .indexAddr t x y, ty, pos, aft, g⟩ f es K := by
 refine op_look hd (fun c A ok rf => ?_) kk
 have h := rep_ev rf x
 rw [hx] at h
 obtain ⟨p, hp⟩ := shape_ptr h
 rw [hp] at h
 have hiy := ev_int rf hy
 unfold arrB at ht
 split at ht
 ·rename_i n' e' i' hu hi
  simp only [Bool.and_eq_true, beq_iff_eq] at ht
  obtain ⟨⟨rfl, rfl⟩, rfl⟩ := ht
  refine ⟨_, ?_, ho ▸ rep_on h⟩
  simp only [execOp, hp, hiy, Instr.indexAt, asIntOf, Sem.run_bind, Sem.run_pure, Result.andThen_ok, run_underlying hu, Instr.sureAddr, Sem.run_ite, h0, h1, and_self, if_true, sizeOf, typeInfo, run_program, hi]
 ·cases ht
/-- The place of an element of a list. -/
theorem o_indexAddr_list {t : TypeId} {e sz : Nat} {rows : List (List AV)} {k : IntKind} {ix : Int} (hx : ev f x = .list sz rows) (hy : ev f y = .int k ix) (ht : sliceB P t e sz = true) (hz : sz ≠ 0) (h0 : 0 ≤ ix) (h1 : ix < rows.length) (ho : .fptr sz rows ix.toNat 0 = a) (kk : K (upd f d a) es) (hd : Nat.blt d N = true := by rfl) : AOp P w0 N ⟨some d, .indexAddr t x y, ty, pos, aft, g⟩ f es K := by
 refine op_look hd (fun c A ok rf => ?_) kk
 have h := rep_ev rf x
 rw [hx] at h
 have hiy := ev_int rf hy
 simp only [Rep] at h
 obtain ⟨B, cap, vs, hv, hcap, hm, hr, hc⟩ := h
 have hl := hr.length
 have hne : vs ≠ [] := by
  intro e
  subst e
  simp only [List.length_nil] at hl
  rcases Nat.mul_eq_zero.1 hl.symm with h2 | h2
  ·omega
  ·exact hz h2
 obtain ⟨b, o, rfl, hb, hcell⟩ := hc hne
 unfold sliceB at ht
 split at ht
 ·rename_i e' i' hu hi
  simp only [Bool.and_eq_true, beq_iff_eq] at ht
  obtain ⟨rfl, rfl⟩ := ht
  refine ⟨.pointer (some ⟨b, o + (ix.toNat * i'.size), none⟩), ?_, ?_⟩
  ·simp only [execOp, hv, hiy, Instr.indexAt, asIntOf, Sem.run_bind, Sem.run_pure, Result.andThen_ok, run_underlying hu, Sem.run_ite, h0, h1, and_self, if_true, sizeOf, typeInfo, run_program, hi, add_eq]
  ·rw [← ho]
   simp only [Rep]
   exact ⟨b, o, vs, by simp, hr, hb, hcell⟩
 ·cases ht
/-- The place of an element of a row of one's own. -/
theorem o_indexAddr_own {t : TypeId} {e sz id s : Nat} {rows : List (List AV)} {C : Ent → List Ent} {k : IntKind} {ix : Int} (hx : ev f x = .own id s) (hy : ev f y = .int k ix) (he : Loc es id (.row s e sz rows) C) (ht : sliceB P t e sz = true) (h0 : 0 ≤ ix) (h1 : ix < rows.length) (ho : .ptr id s ix.toNat 0 = a) (kk : K (upd f d a) es) (hd : Nat.blt d N = true := by rfl) : AOp P w0 N ⟨some d, .indexAddr t x y, ty, pos, aft, g⟩ f es K := by
 refine op_look hd (fun c A ok rf => ?_) kk
 have h := rep_ev rf x
 rw [hx] at h
 have hiy := ev_int rf hy
 have hv := rep_own h he.1
 have hlt := (ok.ent id _ he.1).1
 obtain ⟨_, _, _, xs, hr, hown⟩ := ok.ent id _ he.1
 cases hp : c.phi id with
 | none =>
  rw [hp] at hown
  rcases hown.2 with ⟨_, h6⟩ | ⟨g, cap, cur, h6, _⟩
  ·omega
  ·cases h6
 | some q =>
  obtain ⟨gb, cap⟩ := q
  rw [hp] at hv
  unfold sliceB at ht
  split at ht
  ·rename_i e' i' hu hi
   simp only [Bool.and_eq_true, beq_iff_eq] at ht
   obtain ⟨rfl, rfl⟩ := ht
   refine ⟨.pointer (some ⟨gb, 0 + (ix.toNat * i'.size), none⟩), ?_, ?_⟩
   ·simp only [execOp, hv, ownVal, hiy, Instr.indexAt, asIntOf, Sem.run_bind, Sem.run_pure, Result.andThen_ok, run_underlying hu, Sem.run_ite, h0, h1, and_self, if_true, sizeOf, typeInfo, run_program, hi, add_eq]
   ·rw [← ho]
    simp only [Rep]
    refine ⟨es, rfl, ⟨_, rfl⟩, hlt, fun e2 sz2 rows2 h2 => ?_⟩
    rw [he.1] at h2
    injection h2 with h2
    injection h2 with _ _ h3 _
    subst h3
    exact ⟨gb, cap, hp, by simp⟩
  ·cases ht
end
end
section
open Go.RowKit
section
variable {P : Program} {w0 : World} {N : Nat} {f : Frame} {es : List Ent} {K : Frame → List Ent → Prop}
variable {d : Nat} {ty : TypeId} {pos : String} {aft : Array Edge} {g : Option (Nat × Bool)} {x y z : Operand} {a : AV}

/-! ### parts of values -/
theorem run_part {t : TypeId} {agg : Bool} {n : Nat} (ht : tyB P t agg n = true) (hn : agg = false → n = 1) {cs : Array Value} {off : Nat} (hl : off + n ≤ cs.size) (w : World) :
  (part t cs off).run P w = .ok (if agg then .agg ((cs.toList.drop off).take n).toArray else ((cs.toList.drop off).take n).getD 0 undef) w := by
 cases agg with
 | true =>
  simp only [part, Sem.run_bind, run_isAgg ht, Result.andThen_ok, if_true, run_sizeOf ht, Sem.run_pure]
  congr 2
  apply Array.ext'
  simp [List.take_drop, Nat.add_comm]
 | false =>
  have := hn rfl
  subst this
  simp only [part, Sem.run_bind, run_isAgg ht, Result.andThen_ok, Bool.false_eq_true, if_false]
  have hlt : off < cs.size := by omega
  simp [hlt, List.getD, List.getElem?_take, List.getElem?_drop]
def fieldV (P : Program) (t : TypeId) (fl off : Nat) (agg : Bool) (n : Nat) : Bool :=
 match P.underlying t with
 | some (.struct fs) => match fs[fl]? with
  | some f => f.offset == off && tyB P f.type agg n
  | none => false
 | _ => false
theorem o_field {t : TypeId} {fl off n : Nat} {agg : Bool} {l : List AV} (hx : ev f x = .agg l) (hf : fieldV P t fl off agg n = true) (hn : agg = false → n = 1) (hl : off + n ≤ l.length) (ha : loadAV agg n l off = a) (kk : K (upd f d a) es) (hd : Nat.blt d N = true := by rfl) : AOp P w0 N ⟨some d, .field t x fl, ty, pos, aft, g⟩ f es K := by
 refine op_look hd (fun c A ok rf => ?_) kk
 have h := rep_ev rf x
 rw [hx] at h
 simp only [Rep] at h
 obtain ⟨cs, hv, hr, ho⟩ := h
 unfold fieldV at hf
 split at hf
 ·rename_i fs hu
  split at hf
  ·rename_i fd hfd
   simp only [Bool.and_eq_true, beq_iff_eq] at hf
   obtain ⟨rfl, hf⟩ := hf
   have hl2 := hr.length
   refine ⟨_, ?_, ha ▸ rep_load hr ho agg hn hl⟩
   simp only [execOp, hv, Instr.field, Sem.run_bind, run_underlying hu, Result.andThen_ok, hfd, asAgg, Sem.run_pure, run_part hf hn (by rw [← Array.length_toList]; omega : fd.offset + n ≤ cs.size)]
  ·cases hf
 ·cases hf
theorem run_len_slice {t e sz : Nat} (ht : sliceB P t e sz = true) (A : Option Addr) (n k : Nat) (w : World) : (Builtin.len_ #[t] ty #[.slice A n k]).run P w = .ok (.int .i64 (n : Int)) w := by
 unfold sliceB at ht
 split at ht
 ·rename_i e' i' hu hi
  simp [Builtin.len_, run_underlying hu, goInt]
 ·cases ht
theorem o_len_list {t e sz sz' : Nat} {rows : List (List AV)} (hx : ev f x = .list sz rows) (ht : sliceB P t e sz' = true) (ha : .int .i64 (rows.length : Int) = a) (kk : K (upd f d a) es) (hd : Nat.blt d N = true := by rfl) : AOp P w0 N ⟨some d, .call { callee := .builtin .len, args := #[x], argTypes := #[t] }, ty, pos, aft, g⟩ f es K := by
 refine op_look hd (fun c A ok rf => ?_) kk
 have h := rep_ev rf x
 rw [hx] at h
 simp only [Rep] at h
 obtain ⟨B, cap, vs, hv, _⟩ := h
 refine ⟨.int .i64 rows.length, ?_, by rw [← ha]; simp only [Rep]⟩
 simp [execOp, resolve, invoke, builtin, hv, run_len_slice ht]
theorem o_len_nil {t e sz' : Nat} (hx : ev f x = .nil) (ht : sliceB P t e sz' = true) (kk : K (upd f d (.int .i64 0)) es) (hd : Nat.blt d N = true := by rfl) : AOp P w0 N ⟨some d, .call { callee := .builtin .len, args := #[x], argTypes := #[t] }, ty, pos, aft, g⟩ f es K := by
 refine op_look hd (fun c A ok rf => ?_) kk
 have h := rep_ev rf x
 rw [hx] at h
 simp only [Rep] at h
 refine ⟨.int .i64 0, ?_, by simp only [Rep]⟩
 simp [execOp, resolve, invoke, builtin, h, run_len_slice ht]
theorem own_slice {c : Core} (ok : Ok w0 c es) {id s e sz : Nat} {rows : List (List AV)} (he : at_ es id = some (.row s e sz rows)) {v : Value} (h : Rep c (some es) (.own id s) v) : ∃ A k, v = .slice A rows.length k ∧ rows.length ≤ k := by
 have hv := rep_own h he
 obtain ⟨_, _, _, xs, hr, hown⟩ := ok.ent id _ he
 cases hp : c.phi id with
 | none =>
  rw [hp] at hown hv
  rcases hown.2 with ⟨_, h6⟩ | ⟨g, cap, cur, h6, _⟩
  ·exact ⟨none, 0, by rw [hv, ownVal, h6], by omega⟩
  ·cases h6
 | some q =>
  obtain ⟨gb, cap⟩ := q
  obtain ⟨_, _, _, _, h4, _⟩ := own_cells ok he hp
  rw [hp] at hv
  exact ⟨_, _, hv, h4⟩
theorem o_len_own {t e' sz' id s e sz : Nat} {rows : List (List AV)} {C : Ent → List Ent} (hx : ev f x = .own id s) (he : Loc es id (.row s e sz rows) C) (ht : sliceB P t e' sz' = true) (ha : .int .i64 (rows.length : Int) = a) (kk : K (upd f d a) es) (hd : Nat.blt d N = true := by rfl) : AOp P w0 N ⟨some d, .call { callee := .builtin .len, args := #[x], argTypes := #[t] }, ty, pos, aft, g⟩ f es K := by
 refine op_look hd (fun c A ok rf => ?_) kk
 have h := rep_ev rf x
 rw [hx] at h
 obtain ⟨B, cap, hv, _⟩ := own_slice ok he.1 h
 refine ⟨.int .i64 rows.length, ?_, by rw [← ha]; simp only [Rep]⟩
 simp [execOp, resolve, invoke, builtin, hv, run_len_slice ht]
theorem reps_map {c : Core} {A : Act} (rf : RepF N c es f A) : ∀ l : List Operand, Reps c (some es) (l.map (ev f)) (l.map A.eval)
 | [] => rfl
 | o :: l => ⟨_, _, rfl, rep_ev rf o, reps_map rf l⟩
theorem o_makeFunc {fn : Fn} {l1 l2 : List Operand} (kk : K (upd f d (.fn fn (l1.map (ev f)) (l2.map (ev f)))) es) (hd : Nat.blt d N = true := by rfl) : AOp P w0 N ⟨some d, .makeFunc fn l1.toArray l2.toArray, ty, pos, aft, g⟩ f es K := by
 refine op_look hd (fun c A ok rf => ?_) kk
 refine ⟨.func fn (l1.map A.eval).toArray (l2.map A.eval).toArray, ?_, ?_⟩
 ·simp [execOp, Instr.makeFunc]
 ·simp only [Rep]
  exact ⟨_, _, rfl, by simpa using reps_map rf l1, by simpa using reps_map rf l2⟩
theorem o_max {t1 t2 : TypeId} {k : IntKind} {m n r : Int} (hx : ev f x = .int k m) (hy : ev f y = .int k n) (hr : (if n > m then n else m) = r) (kk : K (upd f d (.int k r)) es) (hd : Nat.blt d N = true := by rfl) : AOp P w0 N ⟨some d, .call { callee := .builtin .max, args := #[x, y], argTypes := #[t1, t2] }, ty, pos, aft, g⟩ f es K := by
 refine op_look hd (fun c A ok rf => ?_) kk
 have h1 := ev_int rf hx
 have h2 := ev_int rf hy
 refine ⟨.int k r, ?_, by simp only [Rep]⟩
 simp [execOp, resolve, invoke, builtin, Builtin.max_, Builtin.max2, h1, h2, ← hr]

/-! ### calls of Go functions -/
theorem call_run {c : Core} {A : Act} {fid : FuncId} {l1 l2 : List AV} {args : List Operand} {ts : Array TypeId} (rf : RepF N c es f A) (hx : ev f x = .fn (.func fid) l1 l2) (hen : enterB P fid = true) :
  ∃ vs : Array Value, (execOp A.eval ⟨some d, .call { callee := .value x, args := args.toArray, argTypes := ts }, ty, pos, aft, g⟩).run P c.w = .ok (.enter fid vs) c.w ∧ Reps c (some es) (l1 ++ args.map (ev f) ++ l2) vs.toList := by
 have h := rep_ev rf x
 rw [hx] at h
 simp only [Rep] at h
 obtain ⟨fs, cs, hv, h1, h2⟩ := h
 unfold enterB at hen
 split at hen
 ·rename_i fn hfn
  simp only [Bool.and_eq_true, bne_iff_ne, ne_eq] at hen
  obtain ⟨hname, hbody⟩ := hen
  refine ⟨fs ++ (args.map A.eval).toArray ++ cs, ?_, ?_⟩
  ·have hb : ¬ fn.body = none := by intro e; rw [e] at hbody; cases hbody
   simp [execOp, resolve, hv, Deferred.ofValue, invoke, callFunc, hfn, hname, hb]
  ·simp only [Array.toList_append]
   exact (h1.append (reps_map rf args)).append h2
 ·cases hen
theorem o_call {fid : FuncId} {l1 l2 : List AV} {args : List Operand} {ts : Array TypeId} {l : List AV} (hx : ev f x = .fn (.func fid) l1 l2) (hen : enterB P fid = true) (hl : l1 ++ args.map (ev f) ++ l2 = l)
  (h : ACalls P w0 fid l es fun r es' => K (upd f d r) es') (hd : Nat.blt d N = true := by rfl) : AOp P w0 N ⟨some d, .call { callee := .value x, args := args.toArray, argTypes := ts }, ty, pos, aft, g⟩ f es K := by
 intro c A next Q ok rf hn
 obtain ⟨vs, hrun, hreps⟩ := call_run (d := d) (ty := ty) (pos := pos) (aft := aft) (g := g) (args := args) (ts := ts) rf hx hen
 simp only [Oper.wp, hrun, Oper.upon]
 refine (h c vs ok (hl ▸ hreps)).mono fun e w' => ?_
 rintro ⟨v, c', es', r, rfl, rfl, x, ok', rep, k⟩
 exact hn c' es' _ _ x ok' ((rf.ext x).put (d := some d) hd rep) k
end
end
section
open Go.RowKit
section
variable {P : Program} {w0 : World} {N : Nat} {f : Frame} {es : List Ent} {K : Frame → List Ent → Prop}
variable {d : Nat} {ty : TypeId} {pos : String} {aft : Array Edge} {g : Option (Nat × Bool)} {x y z : Operand} {a : AV}
variable {ops : Array Oper} {rest : List Oper}

theorem wrap_i64 {n : Int} (h0 : -9223372036854775808 ≤ n) (h1 : n < 9223372036854775808) : IntKind.i64.wrap n = n := by
 have h64 : (2 : Int) ^ 64 = 18446744073709551616 := by decide
 have h63 : (2 : Int) ^ 63 = 9223372036854775808 := by decide
 simp only [IntKind.wrap, IntKind.bits, IntKind.signed, Bool.true_and, decide_eq_true_eq, Nat.reduceSub, h64, h63, ge_iff_le]
 split <;> omega

/-! ### ghosts within a region -/
theorem l_freeze (t : Nat) {id s e sz : Nat} {rows : List (List AV)} {C : Ent → List Ent} (ht : f t = .own id s) (hid : Loc es id (.row s e sz rows) C) (hclean : rows.all cleans = true) (h : AList P w0 N ops rest (upd f t (.list sz rows)) (C .dead) K) : AList P w0 N ops rest f es K := by
 intro c A Q ok rf hk
 have x := ext_freeze (c := c) (es := es) id
 rw [← hid.2] at h
 refine h (c.freeze id) A Q (ok_freeze ok hid.1) ⟨rf.size, fun u => ?_, rf.defers⟩ fun c' es2 f2 A2 x2 ok2 rf2 k => hk c' es2 f2 A2 (x.trans x2) ok2 rf2 k
 by_cases hu : u = t
 ·subst hu
  rw [upd_same]
  have := rf.rep u
  rw [ht] at this
  rw [rep_own this hid.1]
  exact rep_freeze ok hid.1 hclean _
 ·rw [upd_ne _ _ hu]
  exact Rep.ext (es := some es) (es' := some _) _ x (rf.rep u)

/-! ### rows made -/
def chunk : Nat → Nat → List AV → List (List AV)
 | 0, _, _ => []
 | n + 1, sz, l => l.take sz :: chunk n sz (l.drop sz)
theorem chunk_length : ∀ (n sz : Nat) (l : List AV), (chunk n sz l).length = n
 | 0, _, _ => rfl
 | n + 1, sz, l => by simp [chunk, chunk_length n]
theorem rep_chunk {c : Core} {m : Option (List Ent)} : ∀ {n sz : Nat} {l : List AV} {vs : List Value}, Reps c m l vs → l.length = n * sz → (∀ u ∈ vs, u.oneCell' = true) → RepRows c m sz (chunk n sz l) vs
 | 0, sz, l, vs, h, hl, _ => by
  have : vs = [] := List.eq_nil_of_length_eq_zero (by rw [h.length, hl, Nat.zero_mul])
  exact this
 | n + 1, sz, l, vs, h, hl, ho => by
  rw [Nat.succ_mul] at hl
  refine ⟨vs.take sz, vs.drop sz, (List.take_append_drop _ _).symm, by rw [List.length_take]; omega, h.take sz, fun u hu => ho u (List.mem_of_mem_take hu), ?_⟩
  exact rep_chunk (h.drop sz) (by rw [List.length_drop]; omega) fun u hu => ho u (List.mem_of_mem_drop hu)
theorem zeros_list (z : Array Value) (hz : 0 < z.size) : ∀ n : Nat, ((Array.range (n * z.size)).map fun i => z[i % z.size]!).toList = (List.replicate n z.toList).flatten
 | 0 => by simp
 | n + 1 => by
  have ih := zeros_list z hz n
  simp only [Array.toList_map, Array.toList_range] at ih ⊢
  rw [List.replicate_succ, List.flatten_cons, ← ih, Nat.succ_mul, Nat.add_comm, List.range_add, List.map_append, List.map_map]
  congr 1
  ·apply List.ext_getElem
   ·simp
   ·intro i h1 h2
    simp at h1
    simp [Nat.mod_eq_of_lt h1, h1]
  ·apply List.map_congr_left
   intro i _
   simp
theorem rep_zeros {c : Core} {m : Option (List Ent)} {zl : List AV} {zs : List Value} (h : Reps c m zl zs) : ∀ n, Reps c m (List.replicate n zl).flatten (List.replicate n zs).flatten
 | 0 => rfl
 | n + 1 => by
  rw [List.replicate_succ, List.replicate_succ, List.flatten_cons, List.flatten_cons]
  exact h.append (rep_zeros h n)
theorem rep_zrows {c : Core} {m : Option (List Ent)} {zl : List AV} {zs : List Value} (h : Reps c m zl zs) (ho : ∀ u ∈ zs, u.oneCell' = true) : ∀ n, RepRows c m zl.length (List.replicate n zl) (List.replicate n zs).flatten
 | 0 => rfl
 | n + 1 => by
  rw [List.replicate_succ, List.replicate_succ, List.flatten_cons]
  exact ⟨zs, _, rfl, rfl, h, ho, rep_zrows h ho n⟩
theorem o_buildSlice {t e sz len : Nat} {zl l : List AV} {rows : List (List AV)} {parts : List (Nat × Operand)} (ht : sliceB P t e sz = true) (hb : len * sz ≤ 2 ^ 24) (hz : zeroAVs P e = some zl) (hzl : zl.length = sz) (hsz : 0 < sz)
  (hl : fillAV (fun i => some (i * sz, sz)) (List.replicate len zl).flatten (parts.map fun p => (p.1, ev f p.2)) = some l) (hll : l.length = len * sz) (hr : chunk len sz l = rows)
  (k : ∀ s, K (upd f d (.own es.length s)) (.row s e sz rows :: es)) (hd : Nat.blt d N = true := by rfl) : AOp P w0 N ⟨some d, .buildSlice t len parts.toArray, ty, pos, aft, g⟩ f es K := by
 refine op_run hd fun c A ok rf => ?_
 obtain ⟨zv, hrun, hzv, hone⟩ := zero_run hz c.w
 have hcs : zv.cells.size = sz := by rw [← Array.length_toList, ← hzl, ← hzv, List.length_map]
 have hreps : Reps c (some es) zl zv.cells.toList := hzv ▸ reps_const c _ _
 have hzl2 : ((Array.range (len * sz)).map fun i => (if len * sz = 0 then (#[] : Array Value) else zv.cells)[i % (if len * sz = 0 then (#[] : Array Value) else zv.cells).size]!).toList = (List.replicate len zv.cells.toList).flatten := by
  by_cases h0 : len = 0
  ·subst h0; simp
  ·rw [if_neg (by intro e; rcases Nat.mul_eq_zero.1 e with e | e <;> omega), ← hcs]
   exact zeros_list zv.cells (by omega) len
 have hrz : Reps c (some es) (List.replicate len zl).flatten ((Array.range (len * sz)).map fun i => (if len * sz = 0 then (#[] : Array Value) else zv.cells)[i % (if len * sz = 0 then (#[] : Array Value) else zv.cells).size]!).toList := by
  rw [hzl2]; exact rep_zeros hreps len
 obtain ⟨vl, h1, h2, h3⟩ := rep_fill (c := c) (m := some es) (place := fun i => some (i * sz, sz)) (parts := parts.map fun p => (p.1, ev f p.2)) (vparts := parts.map fun p => (p.1, A.eval p.2)) (by simp) (mapped rf parts) hrz
  (fun u hu => by
   rw [hzl2] at hu
   obtain ⟨q, hq, hu⟩ := List.mem_flatten.1 hu
   rw [List.eq_of_mem_replicate hq] at hu
   exact hone u hu) hl
 have hrows : RepRows c (some es) sz rows vl.toList := hr ▸ rep_chunk h2 hll h3
 have hlen : rows.length = len := by rw [← hr, chunk_length]
 refine ⟨.slice (some ⟨c.w.heap.size, 0, none⟩) rows.length rows.length, c.alloc es vl e rows.length, .row c.now e sz rows :: es, .own es.length c.now, ?_, ext_alloc ok _ _ _ _ _, ok_alloc ok _ _ _ rows hrows ?_, rep_new_own, k c.now⟩
 ·unfold sliceB at ht
  split at ht
  ·rename_i e' i' hu hi
   simp only [Bool.and_eq_true, beq_iff_eq] at ht
   obtain ⟨rfl, rfl⟩ := ht
   by_cases h0 : len * i'.size = 0
   ·simp only [h0, if_true] at h1
    simp only [execOp, Instr.buildSlice, Sem.run_bind, run_underlying hu, Result.andThen_ok, sizeOf, typeInfo, run_program, hi, Sem.run_pure, Nat.not_lt.2 hb, if_false, gt_iff_lt, List.map_toArray, h0, if_true, Nat.not_lt_zero, h1, newRow, run_newObj, hlen]
    rfl
   ·simp only [h0, if_false] at h1
    simp only [execOp, Instr.buildSlice, Sem.run_bind, run_underlying hu, Result.andThen_ok, sizeOf, typeInfo, run_program, hi, Sem.run_pure, Nat.not_lt.2 hb, if_false, gt_iff_lt, List.map_toArray, h0, hrun, h1, newRow, run_newObj, hlen]
    rfl
  ·cases ht
 ·rw [hlen]
  simp only [most]
  have : len ≤ len * sz := Nat.le_mul_of_pos_right _ hsz
  omega
def bytesB (P : Program) (e b : Nat) : Bool :=
 match P.info? e with
 | some i => i.bytes == b
 | none => false
theorem o_makeSlice {t e sz b : Nat} {zl : List AV} {k1 k2 : IntKind} {n : Int} (ht : sliceB P t e sz = true) (hbt : bytesB P e b = true) (hz : zeroAVs P e = some zl) (hzl : zl.length = sz) (hsz : 0 < sz) (hx : ev f x = .int k1 n) (hy : ev f y = .int k2 n) (h0 : 0 ≤ n) (hn : n ≤ most) (hb : n * b ≤ 281474976710656)
  (k : ∀ s, K (upd f d (.own es.length s)) (.row s e sz (List.replicate n.toNat zl) :: es)) (hd : Nat.blt d N = true := by rfl) : AOp P w0 N ⟨some d, .makeSlice t x y, ty, pos, aft, g⟩ f es K := by
 refine op_run hd fun c A ok rf => ?_
 obtain ⟨zv, hrun, hzv, hone⟩ := zero_run hz c.w
 have hcs : zv.cells.size = sz := by rw [← Array.length_toList, ← hzl, ← hzv, List.length_map]
 have hreps : Reps c (some es) zl zv.cells.toList := hzv ▸ reps_const c _ _
 have h1 := ev_int rf hx
 have h2 := ev_int rf hy
 have hzl2 : ((Array.range (n.toNat * sz)).map fun i => (if n.toNat * sz = 0 then (#[] : Array Value) else zv.cells)[i % (if n.toNat * sz = 0 then (#[] : Array Value) else zv.cells).size]!).toList = (List.replicate n.toNat zv.cells.toList).flatten := by
  by_cases h0 : n.toNat = 0
  ·rw [h0]; simp
  ·rw [if_neg (by intro e; rcases Nat.mul_eq_zero.1 e with e | e <;> omega), ← hcs]
   exact zeros_list zv.cells (by omega) n.toNat
 have hrows : RepRows c (some es) sz (List.replicate n.toNat zl) ((Array.range (n.toNat * sz)).map fun i => (if n.toNat * sz = 0 then (#[] : Array Value) else zv.cells)[i % (if n.toNat * sz = 0 then (#[] : Array Value) else zv.cells).size]!).toList := by
  rw [hzl2, ← hzl]; exact rep_zrows hreps hone _
 have hwrap : IntKind.i64.wrap n = n := by
  simp only [most] at hn
  exact wrap_i64 (by omega) (by omega)
 refine ⟨.slice (some ⟨c.w.heap.size, 0, none⟩) (List.replicate n.toNat zl).length (List.replicate n.toNat zl).length, c.alloc es _ e (List.replicate n.toNat zl).length, .row c.now e sz (List.replicate n.toNat zl) :: es, .own es.length c.now, ?_, ext_alloc ok _ _ _ _ _, ok_alloc ok _ _ _ _ hrows (by rw [List.length_replicate]; omega), rep_new_own, k c.now⟩
 unfold bytesB at hbt
 unfold sliceB at ht
 split at ht
 ·rename_i e' i' hu hi
  simp only [Bool.and_eq_true, beq_iff_eq] at ht
  obtain ⟨rfl, rfl⟩ := ht
  rw [hi] at hbt
  have hbt : i'.bytes = b := by simpa using hbt
  have hneg : ¬ n < 0 := by omega
  have h48 : (2 : Int) ^ 48 = 281474976710656 := by decide
  have hbig : ¬ ((2 : Int) ^ 48 < (i'.bytes : Int) * n) := by rw [hbt, Int.mul_comm, h48]; omega
  by_cases h0 : n.toNat * i'.size = 0
  ·simp only [execOp, Instr.makeSlice, Sem.run_bind, run_underlying hu, Result.andThen_ok, h1, h2, asInt, asIntOf, Sem.run_pure, typeInfo, run_program, hi, hwrap, hneg, hbig, gt_iff_lt, decide_false, Bool.or_false, Int.lt_irrefl, Bool.false_eq_true, if_false, run_askRoom, sizeOf, h0, if_true, newRow, run_newObj, List.length_replicate]
   rfl
  ·simp only [execOp, Instr.makeSlice, Sem.run_bind, run_underlying hu, Result.andThen_ok, h1, h2, asInt, asIntOf, Sem.run_pure, typeInfo, run_program, hi, hwrap, hneg, hbig, gt_iff_lt, decide_false, Bool.or_false, Int.lt_irrefl, Bool.false_eq_true, if_false, run_askRoom, sizeOf, h0, hrun, newRow, run_newObj, List.length_replicate]
   rfl
 ·cases ht
end
end
section
/-! ### draws are never undone -/
theorem ask_drawn {α : Type} : ∀ (a : Ask α) (w : World), w.drawn ≤ (w.ask a).2.drawn
 | .done a, w => Nat.le_refl _
 | .ask what range k, w => by
  simp only [World.ask]
  split
  ·exact ask_drawn (k 0) w
  ·exact Nat.le_trans (Nat.le_succ _) (ask_drawn _ { w with drawn := w.drawn + 1 })
theorem sys_drawn (w : World) (c : Sys) : w.drawn ≤ (w.sys c).2.drawn := by
 have h := ask_drawn (Kernel.perform c w.os) w
 unfold World.sys
 revert h
 generalize w.ask (Kernel.perform c w.os) = x
 intro h
 obtain ⟨⟨r, os⟩, w2⟩ := x
 cases r <;> first | exact Nat.le_refl _ | exact h
theorem view_drawn {p : Program} {w w' : World} {at_ k : Addr} {u : TypeId} {v : Value} {atomic : Bool} {l : List Addr} (h : w.viewStore p at_ u k v atomic = .ok (w', l)) : w'.drawn = w.drawn := by
 unfold World.viewStore at h
 simp only [bind, Except.bind, pure, Except.pure] at h
 repeat' split at h
 all_goals first
  | (cases h; done)
  | (cases h; rfl)
theorem far_drawn {p : Program} {w w' : World} {a : Addr} {v : Value} {atomic : Bool} {l : List Addr} (h : w.farStore p a v atomic = .ok (w', l)) : w'.drawn = w.drawn := by
 unfold World.farStore at h
 split at h
 ·split at h
  ·rename_i r hr
   injection h with h
   subst h
   exact view_drawn hr
  ·cases h
 ·cases h
theorem run_drawn {α : Type} (p : Program) : ∀ (s : Sem α) (w : World) {a : α} {w' : World}, s.run p w = .ok a w' → w.drawn ≤ w'.drawn := by
  intro s
  induction s with
  | pure a => intro w a' w' h; simp only [Sem.run] at h; injection h with _ h; subst h; exact Nat.le_refl _
  | load m a k ih =>
    intro w a' w' h
    simp only [Sem.run] at h
    split at h
    · exact ih _ _ h
    · split at h
      · exact ih _ _ h
      · cases h
  | store m a v k ih =>
    intro w a' w' h
    cases v <;> simp only [Sem.run] at h <;> first
      | (cases h; done)
      | (split at h
         · split at h
           · cases h
           · exact ih (w.setCell _ _) h
         · split at h
           · rename_i hf
             have h1 := far_drawn hf
             have h2 := ih _ h
             omega
           · cases h)
  | new o k ih => intro w a' w' h; simp only [Sem.run] at h; exact ih _ { w with heap := w.heap.push o } h
  | shape r k ih => intro w a' w' h; simp only [Sem.run] at h; exact ih _ _ h
  | freeze a n k ih => intro w a' w' h; simp only [Sem.run] at h; exact (show (w.freeze a n).drawn = w.drawn by unfold World.freeze; split <;> rfl) ▸ ih (w.freeze a n) h
  | frozen a k ih => intro w a' w' h; simp only [Sem.run] at h; exact ih _ _ h
  | getObj r k ih =>
    intro w a' w' h
    simp only [Sem.run] at h
    split at h
    · cases h
    · exact ih _ _ h
    · cases h
  | setObj r o k ih =>
    intro w a' w' h
    simp only [Sem.run] at h
    split at h
    · cases h
    · exact ih { w with heap := w.heap.setIfInBounds r o } h
    · cases h
  | choose q k ih =>
    intro w a' w' h
    simp only [Sem.run] at h
    split at h
    · exact ih _ _ h
    · exact Nat.le_trans (Nat.le_succ _) (ih _ { w with drawn := w.drawn + 1 } h)
  | sys c k ih =>
    intro w a' w' h
    simp only [Sem.run] at h
    exact Nat.le_trans (sys_drawn w c) (ih _ _ h)
  | program k ih => intro w a' w' h; simp only [Sem.run] at h; exact ih _ _ h
  | mark m k ih => intro w a' w' h; simp only [Sem.run] at h; exact ih _ h
  | halt hh => intro w a' w' h; simp only [Sem.run] at h; cases h
end
section
open Go.RowKit
section
variable {P : Program} {w0 : World} {N : Nat} {f : Frame} {es : List Ent} {K : Frame → List Ent → Prop}
variable {d : Nat} {ty : TypeId} {pos : String} {aft : Array Edge} {g : Option (Nat × Bool)} {x y z : Operand} {a : AV}

/-- What a slice reads al': a list, nil, a row of one's own. -/
def Src (es : List Ent) (a : AV) (sz : Nat) (ys : List (List AV)) : Prop :=
 match a with
 | .list sz' rows => sz' = sz ∧ rows = ys
 | .nil => ys = []
 | .own id s => ∃ e, at_ es id = some (.row s e sz ys)
 | _ => False
theorem src_list {sz : Nat} {ys : List (List AV)} : Src es (.list sz ys) sz ys := ⟨rfl, rfl⟩
theorem src_nil {sz : Nat} : Src es .nil sz [] := rfl
theorem src_own {id s e sz : Nat} {ys : List (List AV)} {C : Ent → List Ent} (h : Loc es id (.row s e sz ys) C) : Src es (.own id s) sz ys := ⟨e, h.1⟩
/-- Its cells. -/
theorem src_cells {c : Core} (ok : Ok w0 c es) {a : AV} {v : Value} {sz : Nat} {ys : List (List AV)} (h : Rep c (some es) a v) (hs : Src es a sz ys) :
  ∃ A k vs, v = .slice A ys.length k ∧ ys.length ≤ k ∧ ys.length ≤ most ∧ RepRows c (some es) sz ys vs ∧ (A = none → vs = []) ∧ (∀ p, A = some p → ∀ j u, vs[j]? = some u → c.w.cell? (p.add j) = some u) := by
 cases a with
 | list sz' rows =>
  obtain ⟨rfl, rfl⟩ := hs
  simp only [Rep] at h
  obtain ⟨A, cap, vs, hv, hcap, hm, hr, hc⟩ := h
  refine ⟨A, cap, vs, hv, hcap, hm, RepRows.ext (es := none) (es' := some es) rows ⟨Nat.le_refl _, fun _ hb => ⟨hb, rfl⟩⟩ hr, fun e => ?_, fun p e j u hj => ?_⟩
  ·by_cases hn : vs = []
   ·exact hn
   ·obtain ⟨b, o, hA, _⟩ := hc hn
    rw [e] at hA; cases hA
  ·have hn : vs ≠ [] := by intro e2; subst e2; simp at hj
   obtain ⟨b, o, hA, _, hcell⟩ := hc hn
   rw [e] at hA
   injection hA with hA
   subst hA
   rw [add_eq, hcell j (List.getElem?_eq_some_iff.1 hj).1]
   exact hj
 | nil =>
  have : ys = [] := hs
  subst this
  simp only [Rep] at h
  exact ⟨none, 0, [], h, Nat.le_refl _, Nat.zero_le _, rfl, fun _ => rfl, fun p e => by cases e⟩
 | own id s =>
  obtain ⟨e, he⟩ := hs
  have hv := rep_own h he
  obtain ⟨_, hm, _, xs, hr, hown⟩ := ok.ent id _ he
  cases hp : c.phi id with
  | none =>
   rw [hp] at hown hv
   rcases hown.2 with ⟨_, h6⟩ | ⟨g, cap, cur, h6, _⟩
   ·have : ys = [] := List.eq_nil_of_length_eq_zero h6
    subst this
    exact ⟨none, 0, [], hv, Nat.le_refl _, Nat.zero_le _, rfl, fun _ => rfl, fun p e => by cases e⟩
   ·cases h6
  | some q =>
   obtain ⟨gb, cap⟩ := q
   obtain ⟨_, _, _, _, h4, _⟩ := own_cells ok he hp
   rw [hp] at hv hown
   refine ⟨some ⟨gb, 0, none⟩, cap, xs, hv, h4, hm, hr, (fun e => by cases e), fun p e j u hj => ?_⟩
   injection e with e
   subst e
   exact hown.cells (g := gb) rfl j u hj
 | any => exact hs.elim
 | bool b => exact hs.elim
 | int k n => exact hs.elim
 | str s => exact hs.elim
 | raw v => exact hs.elim
 | agg l => exact hs.elim
 | tup l => exact hs.elim
 | ptr _ _ _ _ => exact hs.elim
 | fptr _ _ _ _ => exact hs.elim
 | mp _ _ => exact hs.elim
 | tail _ _ _ _ => exact hs.elim
 | fn _ _ _ => exact hs.elim
/-- An owned row's value, told by its place. -/
theorem place_of {w : World} {e sz n : Nat} {xs : List Value} {v : Value} (h : w.ownsRow 0 e sz v n xs) : ∃ p, v = ownVal p n := by
 rcases h.2 with ⟨rfl, h1⟩ | ⟨g, cap, cur, rfl, _⟩
 ·exact ⟨none, rfl⟩
 ·exact ⟨some (g, cap), rfl⟩
theorem o_append {t e sz b id s : Nat} {rows ys : List (List AV)} {C : Ent → List Ent} (ht : sliceB P t e sz = true) (hbt : bytesB P e b = true) (hz : (zeroAVs P e).any (fun zl => zl.length == sz) = true) (hsz : 0 < sz) (hb1 : 0 < b)
  (hx : ev f x = .own id s) (he : Loc es id (.row s e sz rows) C) (hy : ev f y = a) (hs : Src es a sz ys) (hb : (rows.length + ys.length) * b ≤ most)
  (k : ∀ s', K (upd f d (.own id s')) (C (.row s' e sz (rows ++ ys)))) (hd : Nat.blt d N = true := by rfl) : AOp P w0 N ⟨some d, .call { callee := .builtin .append, args := #[x, y], argTypes := #[t, t] }, ty, pos, aft, g⟩ f es K := by
 refine op_run hd fun c A ok rf => ?_
 have hvx := rep_own (hx ▸ rep_ev rf x) he.1
 obtain ⟨B, m, news, hvy, _, _, hnews, hnone, hcells⟩ := src_cells ok (hy ▸ rep_ev rf y) hs
 obtain ⟨hlt, hm, hf, xs, hr, hown⟩ := ok.ent id _ he.1
 unfold bytesB at hbt
 unfold sliceB at ht
 split at ht
 ·rename_i e' i' hu hi
  simp only [Bool.and_eq_true, beq_iff_eq] at ht
  obtain ⟨rfl, rfl⟩ := ht
  rw [hi] at hbt
  have hbt : i'.bytes = b := by simpa using hbt
  have hnl : news.length = ys.length * i'.size := hnews.length
  obtain ⟨zl, hzl, hzlen⟩ : ∃ zl, zeroAVs P e' = some zl ∧ zl.length = i'.size := by
   cases hq : zeroAVs P e' with
   | none => rw [hq] at hz; cases hz
   | some zl => rw [hq] at hz; exact ⟨zl, rfl, by simpa using hz⟩
  obtain ⟨zv, hzi, hzsz⟩ : ∃ zv, i'.zero = some zv ∧ zv.cells.size = i'.size := by
   unfold zeroAVs at hzl
   simp only [hi, Option.bind_some] at hzl
   split at hzl
   ·rename_i zv hz2
    split at hzl
    ·injection hzl with hzl
     refine ⟨zv, hz2, ?_⟩
     rw [← hzlen, ← hzl, List.length_map, Array.length_toList]
    ·cases hzl
   ·cases hzl
  have hsum : rows.length + ys.length ≤ most := Nat.le_trans (Nat.le_mul_of_pos_right _ hb1) hb
  have key : ∃ v' w', (Builtin.append_ #[t, t] ty #[ownVal (c.phi id) rows.length, .slice B ys.length m]).run P c.w = .ok v' w' ∧ w'.ownsRow 0 e' i'.size v' (rows.length + ys.length) (xs ++ news) ∧ c.w.grownBy w' (ownVal (c.phi id) rows.length).ownBlock ∧
    (v'.ownBlock = (ownVal (c.phi id) rows.length).ownBlock ∨ v'.ownBlock = some c.w.heap.size) := by
   cases B with
   | none =>
    have h0 : news = [] := hnone rfl
    have hy0 : ys.length = 0 := by
     rw [h0] at hnl
     rcases Nat.mul_eq_zero.1 hnl.symm with h | h <;> omega
    have hm0 : ys = [] := List.eq_nil_of_length_eq_zero hy0
    subst hm0 h0
    have hrun : (Builtin.append_ #[t, t] ty #[ownVal (c.phi id) rows.length, .slice none 0 m]).run P c.w = .ok (ownVal (c.phi id) rows.length) c.w := by
     rcases hown.2 with ⟨hv0, hn0⟩ | ⟨gb, cap, cur, hv0, _, _, hnc, _⟩
     ·rw [hv0]
      simp [Builtin.append_, run_underlying hu, sizeOf, typeInfo, hi, Builtin.lenOf, Builtin.firstCells]
     ·rw [hv0]
      simp [Builtin.append_, run_underlying hu, sizeOf, typeInfo, hi, Builtin.lenOf, Builtin.firstCells, hnc, storeCells]
    refine ⟨_, c.w, hrun, by simpa using hown, ⟨rfl, rfl, rfl, Nat.le_refl _, fun _ _ _ => rfl⟩, .inl rfl⟩
   | some p =>
    obtain ⟨v', w', h1, h2, h3, _, h5⟩ := run_append_own_at (P := P) c.w 0 t ty e' i' zv i'.size b hu hi hzi rfl hbt hzsz hsz _ rows.length xs hown p ys.length m news hnl (hcells p rfl) (hnews.one) (by simp only [most] at hsum; simp only [maxLen]; omega) (by simpa [most] using hb) (Nat.zero_le _)
    exact ⟨v', w', h1, h2, h3, h5⟩
  obtain ⟨v', w', h1, h2, h3, h5⟩ := key
  obtain ⟨p', rfl⟩ := place_of h2
  have hl : (rows ++ ys).length = rows.length + ys.length := List.length_append
  rw [← hl] at h2 h5
  refine ⟨ownVal p' (rows ++ ys).length, c.turn w' id p', setAt es id (.row c.now e' i'.size (rows ++ ys)), .own id c.now, ?_, ext_turn ok he.1 h3 (.inl rfl) (run_drawn _ _ _ h1), ok_turn ok he.1 h3 (.inl rfl) h5 (by rw [hl]; exact hsum) (hr.append hnews) h2 (run_drawn _ _ _ h1), ?_, ?_⟩
  ·simp only [execOp, resolve, invoke, builtin, Sem.run_bind, Sem.run_pure, Result.andThen_ok, List.map_toArray, List.map_cons, List.map_nil, hvx, hvy, h1]
   rw [hl]
   rfl
  ·simp only [Rep]
   refine ⟨_, rfl, ?_, Nat.lt_succ_self _, fun e2 sz2 rows2 h6 => ?_⟩
   ·cases p' with
    | none => exact ⟨_, _, _, rfl⟩
    | some q => exact ⟨_, _, _, rfl⟩
   ·rw [at_setAt_same _ he.1] at h6
    injection h6 with h6
    injection h6 with _ _ _ h6
    subst h6
    simp [Core.turn]
  ·rw [he.2]
   exact k c.now
 ·cases ht

/-! ### cuts -/
/-- A cut's bound: what stands there, or else dflt. -/
def Bnd (f : Frame) (o : Option Operand) (dflt n : Nat) : Prop :=
 match o with
 | none => n = dflt
 | some x => ∃ k, ev f x = .int k (n : Int)
theorem bnd_run {c : Core} {A : Act} (rf : RepF N c es f A) {o : Option Operand} {dflt n : Nat} (h : Bnd f o dflt n) {x : Operand} (ho : o = some x) : ∃ k, A.eval x = .int k (n : Int) := by
 subst ho
 obtain ⟨k, hk⟩ := h
 exact ⟨k, ev_int rf hk⟩
theorem run_sliceBounds {c : Core} {A : Act} (rf : RepF N c es f A) {lo hi : Option Operand} {len cap l h : Nat} (hlo : Bnd f lo 0 l) (hhi : Bnd f hi len h) (hlh : l ≤ h) (hhc : h ≤ cap) (b : Bool) (w : World) :
  (Instr.sliceBounds b len cap (lo.map A.eval) (hi.map A.eval) none).run P w = .ok (l, h, cap) w := by
 have sb : ∀ (o : Operand) (n y : Nat) (code : BoundsCode) (kk : IntKind), A.eval o = .int kk (n : Int) → n ≤ y → (Instr.sliceBound (A.eval o) y code).run P w = .ok n w := by
  intro o n y code kk ho hn
  rw [ho]
  have h1 : (0 : Int) ≤ n ∧ (n : Int) ≤ y := ⟨by omega, by omega⟩
  simp [Instr.sliceBound, asIntOf, hn]
 cases lo with
 | none =>
  have : l = 0 := hlo
  subst this
  cases hi with
  | none =>
   have : h = len := hhi
   subst this
   simp [Instr.sliceBounds]
  | some o =>
   obtain ⟨k, hk⟩ := bnd_run rf hhi rfl
   simp [Instr.sliceBounds, sb o h cap _ k hk hhc]
 | some o1 =>
  obtain ⟨k1, hk1⟩ := bnd_run rf hlo rfl
  cases hi with
  | none =>
   have : h = len := hhi
   subst this
   simp [Instr.sliceBounds, sb o1 l h _ k1 hk1 hlh]
  | some o =>
   obtain ⟨k, hk⟩ := bnd_run rf hhi rfl
   simp [Instr.sliceBounds, sb o h cap _ k hk hhc, sb o1 l h _ k1 hk1 hlh]
theorem RepRows.take {c : Core} {m : Option (List Ent)} : ∀ {rows : List (List AV)} {sz : Nat} {vs : List Value}, RepRows c m sz rows vs → ∀ n, RepRows c m sz (rows.take n) (vs.take (n * sz))
 | [], sz, vs, h, n => by simp only [RepRows] at h; subst h; simp [RepRows]
 | r :: rs, sz, vs, h, n => by
  simp only [RepRows] at h
  obtain ⟨v1, v2, rfl, hl, h1, ho, h2⟩ := h
  have hv1 : v1.length = sz := h1.length.trans hl
  cases n with
  | zero => simp [RepRows]
  | succ n =>
   refine ⟨v1, v2.take (n * sz), ?_, hl, h1, ho, h2.take n⟩
   rw [List.take_append, hv1, List.take_of_length_le (by rw [hv1, Nat.succ_mul]; omega), show (n + 1) * sz - sz = n * sz by rw [Nat.succ_mul]; omega]
theorem RepRows.drop {c : Core} {m : Option (List Ent)} : ∀ {rows : List (List AV)} {sz : Nat} {vs : List Value}, RepRows c m sz rows vs → ∀ n, RepRows c m sz (rows.drop n) (vs.drop (n * sz))
 | [], sz, vs, h, n => by simp only [RepRows] at h; subst h; simp [RepRows]
 | r :: rs, sz, vs, h, n => by
  have h0 := h
  simp only [RepRows] at h
  obtain ⟨v1, v2, rfl, hl, h1, ho, h2⟩ := h
  have hv1 : v1.length = sz := h1.length.trans hl
  cases n with
  | zero => simpa using h0
  | succ n =>
   rw [List.drop_append, hv1, List.drop_of_length_le (l := v1) (by rw [hv1, Nat.succ_mul]; omega), List.nil_append, show (n + 1) * sz - sz = n * sz by rw [Nat.succ_mul]; omega]
   exact h2.drop n
theorem o_slice_list {t e sz l h : Nat} {lo hi : Option Operand} {rows : List (List AV)} (hx : ev f x = .list sz rows) (ht : sliceB P t e sz = true) (hlo : Bnd f lo 0 l) (hhi : Bnd f hi rows.length h) (hlh : l ≤ h) (hh : h ≤ rows.length)
  (ha : .list sz ((rows.take h).drop l) = a) (kk : K (upd f d a) es) (hd : Nat.blt d N = true := by rfl) : AOp P w0 N ⟨some d, .slice t x lo hi none, ty, pos, aft, g⟩ f es K := by
 refine op_look hd (fun c A ok rf => ?_) kk
 have hr := rep_ev rf x
 rw [hx] at hr
 simp only [Rep] at hr
 obtain ⟨B, cap, vs, hv, hcap, hm, hr, hc⟩ := hr
 have hlen : ((rows.take h).drop l).length = h - l := by rw [List.length_drop, List.length_take]; omega
 unfold sliceB at ht
 split at ht
 ·rename_i e' i' hu hi'
  simp only [Bool.and_eq_true, beq_iff_eq] at ht
  obtain ⟨rfl, rfl⟩ := ht
  refine ⟨.slice (if cap = l then B else B.map (·.add (l * i'.size))) (h - l) (cap - l), ?_, ?_⟩
  ·simp only [execOp, hv, Instr.sliceAt, Instr.slice, Sem.run_bind, run_underlying hu, Result.andThen_ok, Option.map_none, run_sliceBounds rf hlo hhi hlh (by omega : h ≤ cap), sizeOf, typeInfo, run_program, hi', Sem.run_pure]
  ·rw [← ha]
   simp only [Rep]
   refine ⟨_, _, (vs.take (h * i'.size)).drop (l * i'.size), by rw [hlen], by omega, by omega, (hr.take h).drop l, fun hne => ?_⟩
   have hvl := hr.length
   have hlt : l < h := by
    rcases Nat.lt_or_ge l h with h1 | h1
    ·exact h1
    ·exfalso
     apply hne
     rw [List.drop_eq_nil_iff, List.length_take]
     have : h * i'.size ≤ l * i'.size := Nat.mul_le_mul_right _ h1
     omega
   have hne0 : vs ≠ [] := by
    intro e2
    subst e2
    simp at hne
   obtain ⟨b, o, hB, hb, hcell⟩ := hc hne0
   subst hB
   rw [if_neg (by omega)]
   refine ⟨b, o + l * i'.size, by simp [add_eq], hb, fun j hj => ?_⟩
   rw [List.length_drop, List.length_take] at hj
   rw [List.getElem?_drop, List.getElem?_take, if_pos (by omega), ← hcell _ (by omega)]
   congr 2
   omega
 ·cases ht
/-- v[:h], v being left behind. -/
theorem o_slice_own {t e sz id s h : Nat} {lo hi : Option Operand} {rows : List (List AV)} {C : Ent → List Ent} (hx : ev f x = .own id s) (he : Loc es id (.row s e sz rows) C) (ht : sliceB P t e sz = true) (hlo : Bnd f lo 0 0) (hhi : Bnd f hi rows.length h) (hh : h ≤ rows.length)
  (k : ∀ s', K (upd f d (.own id s')) (C (.row s' e sz (rows.take h)))) (hd : Nat.blt d N = true := by rfl) : AOp P w0 N ⟨some d, .slice t x lo hi none, ty, pos, aft, g⟩ f es K := by
 refine op_run hd fun c A ok rf => ?_
 have hrep := hx ▸ rep_ev rf x
 have hvx := rep_own hrep he.1
 obtain ⟨hlt, hm, hf, xs, hr, hown⟩ := ok.ent id _ he.1
 have hxl := hr.length
 have hlen : (rows.take h).length = h := by rw [List.length_take]; omega
 have hg : c.w.grownBy c.w (ownVal (c.phi id) rows.length).ownBlock := ⟨rfl, rfl, rfl, Nat.le_refl _, fun _ _ _ => rfl⟩
 have hown' : c.w.ownsRow 0 e sz (ownVal (c.phi id) (rows.take h).length) (rows.take h).length (xs.take (h * sz)) := by
  refine ⟨by rw [List.length_take, hlen, hxl, Nat.min_eq_left (Nat.mul_le_mul_right _ hh)], ?_⟩
  rw [hlen]
  cases hp : c.phi id with
  | none =>
   rw [hp] at hown
   rcases hown.2 with ⟨_, h1⟩ | ⟨_, _, _, h1, _⟩
   ·exact .inl ⟨rfl, by omega⟩
   ·cases h1
  | some q =>
   obtain ⟨gb, cap⟩ := q
   rw [hp] at hown
   rcases hown.2 with ⟨h1, _⟩ | ⟨g', cap', cur, h1, h2, h3, h4, h5, h6, h7⟩
   ·cases h1
   ·injection h1 with h1 _ h1''
    injection h1 with h1
    injection h1 with h1
    subst h1 h1''
    refine .inr ⟨gb, cap, cur, rfl, h2, h3, by omega, h5, h6, ?_⟩
    rw [← h7, List.take_take, Nat.min_eq_left (Nat.mul_le_mul_right _ hh)]
 have hblk : (ownVal (c.phi id) (rows.take h).length).ownBlock = (ownVal (c.phi id) rows.length).ownBlock := by cases c.phi id <;> rfl
 refine ⟨ownVal (c.phi id) h, c.turn c.w id (c.phi id), setAt es id (.row c.now e sz (rows.take h)), .own id c.now, ?_, ext_turn ok he.1 hg (.inl rfl), ok_turn ok he.1 hg (.inl rfl) (.inl hblk) (by omega) (hr.take h) hown', ?_, by rw [he.2]; exact k c.now⟩
 ·obtain ⟨B, cap, hvs, hcap⟩ := own_slice ok he.1 hrep
  unfold sliceB at ht
  split at ht
  ·rename_i e' i' hu hi'
   simp only [Bool.and_eq_true, beq_iff_eq] at ht
   obtain ⟨rfl, rfl⟩ := ht
   simp only [execOp, hvs, Instr.sliceAt, Instr.slice, Sem.run_bind, run_underlying hu, Result.andThen_ok, Option.map_none, run_sliceBounds rf hlo hhi (Nat.zero_le h) (by omega : h ≤ cap), sizeOf, typeInfo, run_program, hi', Sem.run_pure]
   rw [hvs] at hvx
   have hB : (if cap = 0 then B else B.map (·.add (0 * i'.size))) = B := by
    split
    ·rfl
    ·cases B with
     | none => rfl
     | some p => simp [Addr.add]
   rw [hB, Nat.sub_zero, Nat.sub_zero]
   cases hp : c.phi id with
   | none =>
    rw [hp] at hvx
    injection hvx with h1 h2 h3
    subst h1 h3
    have : h = 0 := by omega
    subst this
    rfl
   | some q =>
    obtain ⟨gb, cp⟩ := q
    rw [hp] at hvx
    injection hvx with h1 h2 h3
    subst h1 h3
    rfl
  ·cases ht
 ·simp only [Rep]
  refine ⟨_, rfl, ?_, Nat.lt_succ_self _, fun e2 sz2 rows2 h6 => ?_⟩
  ·cases c.phi id with
   | none => exact ⟨_, _, _, rfl⟩
   | some q => exact ⟨_, _, _, rfl⟩
  ·rw [at_setAt_same _ he.1] at h6
   injection h6 with h6
   injection h6 with _ _ _ h6
   subst h6
   simp only [Core.turn, if_pos, hlen]
end
end
section
open Go.RowKit
section
variable {P : Program} {w0 : World} {N : Nat} {f : Frame} {es : List Ent} {K : Frame → List Ent → Prop}
variable {d : Nat} {ty : TypeId} {pos : String} {aft : Array Edge} {g : Option (Nat × Bool)} {x y z : Operand} {a : AV}

/-! ### arrays of whole numbers held against one another -/
def valOf : AV → Int
 | .int _ n => n
 | _ => 0
def allInts (k : IntKind) (l : List AV) : Bool := l.all fun a => match a with | .int k' _ => k' == k | _ => false
theorem reps_ints {c : Core} {m : Option (List Ent)} {k : IntKind} : ∀ {l : List AV} {vs : List Value}, Reps c m l vs → allInts k l = true → vs = (l.map valOf).map (Value.int k)
 | [], vs, h, _ => by simp only [Reps] at h; subst h; rfl
 | a :: l, vs, h, ha => by
  simp only [Reps] at h
  obtain ⟨v, vs', rfl, h1, h2⟩ := h
  simp only [allInts, List.all_cons, Bool.and_eq_true] at ha
  rw [reps_ints h2 ha.2]
  cases a with
  | int k' n =>
   simp only [Rep] at h1
   have : k' = k := by simpa using ha.1
   rw [h1, this]
   rfl
  | _ => simp at ha
theorem run_equalIn_ints (d : Nat) (t e : TypeId) (n : Nat) (k : IntKind) (ht : P.underlying t = some (.array n e)) (he : P.underlying e = some (.int k)) (hsz : ∀ w, (sizeOf e).run P w = .ok 1 w) (w : World)
  (xs ys : List Int) (hx : xs.length = n) (hy : ys.length = n) :
  (Op.equalIn (d + 2) t (.agg (xs.map (Value.int k)).toArray) (.agg (ys.map (Value.int k)).toArray)).run P w = .ok (xs == ys) w := by
 have hall : ∀ (xs ys : List Int), xs.length = ys.length → ((List.range xs.length).all fun i => xs.getD i 0 == ys.getD i 0) = (xs == ys) := by
  intro xs
  induction xs with
  | nil => intro ys h; cases ys with | nil => rfl | cons _ _ => simp at h
  | cons x xs ih =>
   intro ys h
   cases ys with
   | nil => simp at h
   | cons y ys =>
    have ih := ih ys (by simpa using h)
    rw [List.length_cons, List.range_succ_eq_map, List.all_cons, List.all_map]
    simp only [List.getD_cons_zero, Function.comp_def, List.getD_cons_succ, ih]
    simp [List.cons_beq_cons]
 rw [← hall xs ys (hx.trans hy.symm), hx, List.range_eq_range', Op.equalIn]
 simp only [Sem.run_bind, run_underlying ht, Result.andThen_ok, hsz, Std.Legacy.Range.forIn_eq_forIn_range', Std.Legacy.Range.size, Nat.sub_zero, Nat.add_sub_cancel, Nat.div_one]
 have hl : ∀ i ∈ List.range' 0 n 1, i < n := fun i hi => by simpa using (List.mem_range'_1.1 hi).2
 generalize List.range' 0 n 1 = l at hl ⊢
 induction l with
 | nil => simp
 | cons i l ih =>
  have hi : i < n := hl i (by simp)
  have px : (part e (xs.map (Value.int k)).toArray (i * 1)).run P w = .ok (.int k (xs.getD i 0)) w := by
   simp [part, isAgg, run_underlying he, List.getD, List.getElem?_eq_getElem (show i < xs.length by omega)]
  have py : (part e (ys.map (Value.int k)).toArray (i * 1)).run P w = .ok (.int k (ys.getD i 0)) w := by
   simp [part, isAgg, run_underlying he, List.getD, List.getElem?_eq_getElem (show i < ys.length by omega)]
  have pe := run_equalIn_int (P := P) w d e k k (xs.getD i 0) (ys.getD i 0) he
  simp only [List.forIn_cons, Sem.run_bind, px, py, pe, Result.andThen_ok, List.all_cons]
  cases hb : (xs.getD i 0 == ys.getD i 0)
  ·simp
  ·simp only [Bool.not_true, Bool.false_eq_true, if_false, Sem.run_pure, Result.andThen_ok, Bool.true_and]
   exact ih fun j hj => hl j (by simp [hj])
def arrI (P : Program) (t n : Nat) (k : IntKind) : Bool :=
 match P.underlying t with
 | some (.array n' e) => n' == n && (match P.underlying e, P.info? e with | some (.int k'), some i => k' == k && i.size == 1 | _, _ => false) && !P.eqGuardType P.depth t
 | _ => false
theorem arrI_run {t n : Nat} {k : IntKind} (h : arrI P t n k = true) {c : Core} {A : Act} (rf : RepF N c es f A) {l1 l2 : List AV} (hx : ev f x = .agg l1) (hy : ev f y = .agg l2) (h1 : allInts k l1 = true) (h2 : allInts k l2 = true) (n1 : l1.length = n) (n2 : l2.length = n) :
  ∃ xs ys, A.eval x = .agg xs ∧ A.eval y = .agg ys ∧ (Op.equalIn 10000 t (.agg xs) (.agg ys)).run P c.w = .ok (l1.map valOf == l2.map valOf) c.w ∧ ∀ op, (eqGuard op t x y (.agg xs) (.agg ys)).run P c.w = .ok () c.w := by
 have hx := hx ▸ rep_ev rf x
 have hy := hy ▸ rep_ev rf y
 simp only [Rep] at hx hy
 obtain ⟨xs, e1, r1, _⟩ := hx
 obtain ⟨ys, e2, r2, _⟩ := hy
 have f1 := reps_ints r1 h1
 have f2 := reps_ints r2 h2
 unfold arrI at h
 split at h
 ·rename_i n' e ht
  simp only [Bool.and_eq_true, beq_iff_eq, Bool.not_eq_true'] at h
  obtain ⟨⟨rfl, h3⟩, h4⟩ := h
  split at h3
  ·rename_i k' i hk hi
   simp only [Bool.and_eq_true, beq_iff_eq] at h3
   obtain ⟨rfl, h5⟩ := h3
   refine ⟨xs, ys, e1, e2, ?_, fun op => run_eqGuard_agg c.w op t x y xs ys h4⟩
   have := run_equalIn_ints (P := P) 9998 t e n' k' ht hk (fun w => by simp [sizeOf, typeInfo, hi, h5]) c.w (l1.map valOf) (l2.map valOf) (by simpa using n1) (by simpa using n2)
   rw [← f1, ← f2] at this
   simpa using this
  ·cases h3
 ·cases h
theorem o_eqa {t u n : Nat} {k : IntKind} {l1 l2 : List AV} {b : Bool} (hx : ev f x = .agg l1) (hy : ev f y = .agg l2) (ht : arrI P t n k = true) (h1 : allInts k l1 = true) (h2 : allInts k l2 = true) (n1 : l1.length = n) (n2 : l2.length = n) (hb : (l1.map valOf == l2.map valOf) = b)
  (kk : K (upd f d (.bool b)) es) (hd : Nat.blt d N = true := by rfl) : AOp P w0 N ⟨some d, .binOp .eql t x y u, ty, pos, aft, g⟩ f es K := by
 refine op_look hd (fun c A ok rf => ?_) kk
 obtain ⟨xs, ys, e1, e2, h3, h4⟩ := arrI_run ht rf hx hy h1 h2 n1 n2
 refine ⟨.bool b, ?_, by simp only [Rep]⟩
 simp only [execOp, e1, e2, Sem.run_bind, h4, Result.andThen_ok, run_eql_struct, h3, Sem.run_pure, hb]
theorem o_nea {t u n : Nat} {k : IntKind} {l1 l2 : List AV} {b : Bool} (hx : ev f x = .agg l1) (hy : ev f y = .agg l2) (ht : arrI P t n k = true) (h1 : allInts k l1 = true) (h2 : allInts k l2 = true) (n1 : l1.length = n) (n2 : l2.length = n) (hb : (!(l1.map valOf == l2.map valOf)) = b)
  (kk : K (upd f d (.bool b)) es) (hd : Nat.blt d N = true := by rfl) : AOp P w0 N ⟨some d, .binOp .neq t x y u, ty, pos, aft, g⟩ f es K := by
 refine op_look hd (fun c A ok rf => ?_) kk
 obtain ⟨xs, ys, e1, e2, h3, h4⟩ := arrI_run ht rf hx hy h1 h2 n1 n2
 refine ⟨.bool b, ?_, by simp only [Rep]⟩
 simp only [execOp, e1, e2, Sem.run_bind, h4, Result.andThen_ok, run_neq_struct, h3, Sem.run_pure, hb]

/-! ### texts and bytes -/
/-- A new block that is never written again. -/
def Core.add (c : Core) (w' : World) (b : Nat) : Core := { c with w := w', fro := fun k => c.fro k ∨ k = b }
def bytesRows (s : ByteArray) : List (List AV) := s.data.toList.map fun b => [AV.int .u8 (b.toNat : Int)]
def strSlice (P : Program) (s t e : Nat) : Bool :=
 match P.underlying s, P.underlying t, P.underlying e with
 | some .string, some (.slice e'), some (.int .u8) => e' == e
 | _, _, _ => false
end
end
section
open Go.RowKit

/-- What an operation looks at: its operands' slots, its guard's. -/
def looks (l : List Oper) (o : Oper) : List Nat :=
 (o.op.operands.toList.filterMap fun x => match x with | .tmp t => some t | _ => none) ++
 (match o.guard with | some (j, _) => ((l[j]?).bind (·.dst)).toList | none => [])
def preds (o : Oper) : List Nat := (o.after.toList.filter (Region.binds .any)).map (·.on)
theorem mem_preds {o : Oper} {j : Nat} : j ∈ preds o ↔ ∃ e ∈ o.after, Region.binds .any e = true ∧ e.on = j := by
 simp only [preds, List.mem_map, List.mem_filter, Array.mem_toList_iff]
 constructor
 ·rintro ⟨e, ⟨h1, h2⟩, h3⟩; exact ⟨e, h1, h2, h3⟩
 ·rintro ⟨e, h1, h2, h3⟩; exact ⟨e, ⟨h1, h2⟩, h3⟩
/-- Of each operation all that must be behind it, near or far. -/
def farOf (acc : List (List Nat)) (o : Oper) : List Nat := (preds o ++ (preds o).flatMap fun j => acc.getD j []).eraseDups
def far : List Oper → List (List Nat) → List (List Nat)
 | [], acc => acc
 | o :: rest, acc => far rest (acc ++ [farOf acc o])
/-- A set of operations with all that is ahead of each. -/
def Closed (l : List Oper) (L : Nat → Prop) : Prop := ∀ (i : Nat) (o : Oper), l[i]? = some o → L i → ∀ j ∈ preds o, L j
theorem far_sound {l : List Oper} {L : Nat → Prop} (hL : Closed l L) : ∀ (rest : List Oper) (acc : List (List Nat)), l = l.take acc.length ++ rest →
  (∀ (i : Nat) (o : Oper), i < acc.length → l[i]? = some o → (∀ j ∈ preds o, L j) → ∀ j ∈ acc.getD i [], L j) →
  ∀ (i : Nat) (o : Oper), l[i]? = some o → (∀ j ∈ preds o, L j) → ∀ j ∈ (far rest acc).getD i [], L j
 | [], acc, hl, h, i, o, hi, hp, j, hj => by
  simp only [far] at hj
  by_cases hia : i < acc.length
  ·exact h i o hia hi hp j hj
  ·rw [List.getD_eq_getElem?_getD, List.getElem?_eq_none (by omega)] at hj
   simp at hj
 | x :: rest, acc, hl, h, i, o, hi, hp, j, hj => by
  have hacc : acc.length < l.length := by
   have := congrArg List.length hl
   simp only [List.length_append, List.length_take, List.length_cons] at this
   omega
  have hx : l[acc.length]? = some x := by
   rw [hl, List.getElem?_append_right (by simp [List.length_take]; omega)]
   have : acc.length - (l.take acc.length).length = 0 := by simp [List.length_take]; omega
   rw [this]
   rfl
  refine far_sound hL rest (acc ++ [farOf acc x]) ?_ ?_ i o hi hp j hj
  ·have hlen : (acc ++ [farOf acc x]).length = acc.length + 1 := by simp
   rw [hlen, List.take_add_one, hx, List.append_assoc]
   exact hl
  ·intro i' o' hi' hio' hp' j' hj'
   have hlen : (acc ++ [farOf acc x]).length = acc.length + 1 := by simp
   rw [hlen] at hi'
   by_cases hia : i' < acc.length
   ·rw [List.getD_eq_getElem?_getD, List.getElem?_append_left hia, ← List.getD_eq_getElem?_getD] at hj'
    exact h i' o' hia hio' hp' j' hj'
   ·have : i' = acc.length := by omega
    subst this
    rw [List.getD_eq_getElem?_getD, List.getElem?_append_right (Nat.le_refl _)] at hj'
    simp only [Nat.sub_self, List.getElem?_cons_zero, Option.getD_some, farOf, List.mem_eraseDups, List.mem_append, List.mem_flatMap] at hj'
    rw [hx] at hio'
    injection hio' with e
    subst e
    rcases hj' with hj' | ⟨k, hk, hj'⟩
    ·exact hp' j' hj'
    ·have hLk := hp' k hk
     by_cases hka : k < acc.length
     ·exact h k l[k] hka (List.getElem?_eq_getElem (by omega)) (hL k _ (List.getElem?_eq_getElem (by omega)) hLk) j' hj'
     ·rw [List.getD_eq_getElem?_getD, List.getElem?_eq_none (by omega)] at hj'
      simp at hj'

/-- The first m operations: those in ms one behind the other, the others quiet; all later ones one behind the other, behind these. -/
def drawOk (l : List Oper) (m : Nat) (ms : List Nat) : Bool :=
 let F := far l []
 decide (m ≤ l.length) && decide (((l.take m).filterMap (·.dst)).Nodup) &&
 (l.zipIdx.all fun x => (preds x.1).all fun j => decide (j < x.2)) &&
 ((l.take m).zipIdx.all fun x => (looks l x.1).all fun t => (l.take m).zipIdx.all fun y => !(y.1.dst == some t) || ((preds x.1).contains y.2 && (!(ms.contains y.2) || ms.contains x.2))) &&
 (l.zipIdx.all fun x => decide (x.2 < m) || (List.range x.2).all fun j => (F.getD x.2 []).contains j) &&
 ((l.take m).zipIdx.all fun x => if ms.contains x.2 then x.1.guard.isNone && (ms.all fun j => !(decide (j < x.2)) || (F.getD x.2 []).contains j) else x.1.dst.isSome) &&
 decide (ms.Pairwise (· < ·)) && ms.all (fun j => decide (j < m))

structure DrawOk (l : List Oper) (m : Nat) (ms : List Nat) : Prop where
 le : m ≤ l.length
 dist : ∀ (i j : Nat) (o o' : Oper) (d : Nat), i < m → j < m → l[i]? = some o → l[j]? = some o' → o.dst = some d → o'.dst = some d → i = j
 back : ∀ (i : Nat) (o : Oper), l[i]? = some o → ∀ j ∈ preds o, j < i
 wait : ∀ (i : Nat) (o : Oper), i < m → l[i]? = some o → ∀ t ∈ looks l o, ∀ (j : Nat) (o' : Oper), j < m → l[j]? = some o' → o'.dst = some t → j ∈ preds o ∧ (j ∈ ms → i ∈ ms)
 tail : ∀ (L : Nat → Prop), Closed l L → ∀ (i : Nat) (o : Oper), m ≤ i → l[i]? = some o → (∀ j ∈ preds o, L j) → ∀ j, j < i → L j
 quiet : ∀ (i : Nat) (o : Oper), i < m → i ∉ ms → l[i]? = some o → ∃ d, o.dst = some d
 plain : ∀ (i : Nat) (o : Oper), i < m → i ∈ ms → l[i]? = some o → o.guard = none
 chain : ∀ (L : Nat → Prop), Closed l L → ∀ (i : Nat) (o : Oper), i < m → i ∈ ms → l[i]? = some o → (∀ j ∈ preds o, L j) → ∀ j ∈ ms, j < i → L j
 rise : ms.Pairwise (· < ·)
 lt : ∀ j ∈ ms, j < m
theorem take_get {α : Type} {l : List α} {m i : Nat} {o : α} (h : i < m) (hi : l[i]? = some o) : (l.take m)[i]? = some o := by
 rw [List.getElem?_take, if_pos h, hi]
theorem nodup_filterMap_idx {α β : Type} {g : α → Option β} : ∀ {l : List α}, (l.filterMap g).Nodup → ∀ {i j : Nat} {x y : α} {d : β}, l[i]? = some x → l[j]? = some y → g x = some d → g y = some d → i = j
 | [], _, i, _, _, _, _, hi, _, _, _ => by simp at hi
 | a :: t, h, i, j, x, y, d, hi, hj, hx, hy => by
  have mem : ∀ {k : Nat} {z : α}, t[k]? = some z → g z = some d → d ∈ t.filterMap g := fun hk hz => List.mem_filterMap.2 ⟨_, List.mem_of_getElem? hk, hz⟩
  rcases i with _ | i <;> rcases j with _ | j
  ·rfl
  ·exfalso
   simp only [List.getElem?_cons_zero, Option.some.injEq, List.getElem?_cons_succ] at hi hj
   subst hi
   rw [List.filterMap_cons_some hx, List.nodup_cons] at h
   exact h.1 (mem hj hy)
  ·exfalso
   simp only [List.getElem?_cons_zero, Option.some.injEq, List.getElem?_cons_succ] at hi hj
   subst hj
   rw [List.filterMap_cons_some hy, List.nodup_cons] at h
   exact h.1 (mem hi hx)
  ·simp only [List.getElem?_cons_succ] at hi hj
   have ht : (t.filterMap g).Nodup := by
    cases hg : g a with
    | none => rwa [List.filterMap_cons_none hg] at h
    | some z => rw [List.filterMap_cons_some hg, List.nodup_cons] at h; exact h.2
   rw [nodup_filterMap_idx ht hi hj hx hy]
theorem drawOk_of {l : List Oper} {m : Nat} {ms : List Nat} (h : drawOk l m ms = true) : DrawOk l m ms := by
 simp only [drawOk, Bool.and_eq_true, decide_eq_true_eq, List.all_eq_true] at h
 obtain ⟨⟨⟨⟨⟨⟨⟨h0, h1⟩, h2⟩, h3⟩, h4⟩, h5⟩, h6⟩, h7⟩ := h
 have mem : ∀ {i o}, i < m → l[i]? = some o → (o, i) ∈ (l.take m).zipIdx := fun hm hi => List.mem_zipIdx_iff_getElem?.2 (by simpa using take_get hm hi)
 have mem' : ∀ {i o}, l[i]? = some o → (o, i) ∈ l.zipIdx := fun hi => List.mem_zipIdx_iff_getElem?.2 (by simpa using hi)
 have snd : ∀ (L : Nat → Prop), Closed l L → ∀ (i : Nat) (o : Oper), l[i]? = some o → (∀ j ∈ preds o, L j) → ∀ j ∈ (far l []).getD i [], L j :=
  fun L hL => far_sound hL l [] (by simp) (fun i o hi => by simp at hi)
 refine ⟨h0, fun i j o o' d him hjm hi hj hd hd' => nodup_filterMap_idx h1 (take_get him hi) (take_get hjm hj) hd hd', fun i o hi j hj => h2 _ (mem' hi) j hj, fun i o him hi t ht j o' hjm hj hd => ?_, fun L hL i o hmi hi hp j hj => ?_, fun i o him hn hi => ?_, fun i o him hn hi => ?_, fun L hL i o him hn hi hp j hj hji => ?_, h6, h7⟩
 ·have := h3 _ (mem him hi) t ht _ (mem hjm hj)
  simp only [hd, beq_self_eq_true, Bool.not_true, Bool.false_or, Bool.and_eq_true, List.contains_iff_mem, Bool.or_eq_true, Bool.not_eq_true'] at this
  refine ⟨this.1, fun hj => ?_⟩
  rcases this.2 with h8 | h8
  ·simp [hj] at h8
  ·exact h8
 ·have := h4 _ (mem' hi)
  simp only [Bool.or_eq_true, decide_eq_true_eq, List.all_eq_true, List.mem_range, List.contains_iff_mem] at this
  rcases this with h8 | h8
  ·omega
  ·exact snd L hL i o hi hp j (h8 j hj)
 ·have := h5 _ (mem him hi)
  rw [if_neg (by simpa using hn)] at this
  exact Option.isSome_iff_exists.1 this
 ·have := h5 _ (mem him hi)
  rw [if_pos (by simpa using hn), Bool.and_eq_true] at this
  exact Option.isNone_iff_eq_none.1 this.1
 ·have := h5 _ (mem him hi)
  rw [if_pos (by simpa using hn), Bool.and_eq_true, List.all_eq_true] at this
  have := this.2 j hj
  simp only [hji, decide_true, Bool.not_true, Bool.false_or, List.contains_iff_mem] at this
  exact snd L hL i o hi hp j this

section
variable {P : Program} {w0 : World} {N : Nat}

/-- One operation of a region whose order is open: whatever else is known, it leaves v in its slot, and the rows al' they are. F is what is known of what it looks at. -/
def QOp (P : Program) (w0 : World) (N : Nat) (o : Oper) (F : Frame) (v : AV) (es : List Ent) : Prop :=
 ∀ f : Frame, (∀ x ∈ o.op.operands, ev f x = ev F x) → AOp P w0 N o f es fun f' es' => es' = es ∧ f' = put f o.dst v
def QStep (P : Program) (w0 : World) (N : Nat) (G : List Ent → Prop) (ops : Array Oper) (o : Oper) (F : Frame) (v : AV) : Prop :=
 match o.guard with
 | none => ∀ es, G es → QOp P w0 N o F v es
 | some (j, want) => ∃ d, (ops[j]?).bind (·.dst) = some d ∧ Nat.blt d N = true ∧ ((F d = .bool want ∧ ∀ es, G es → QOp P w0 N o F v es) ∨ ((F d = .bool (!want) ∨ F d = .raw undef) ∧ v = .raw undef))
/-- The quiet operations in the text's order; what is known grows. -/
def QList (P : Program) (w0 : World) (N : Nat) (G : List Ent → Prop) (ops : Array Oper) : List Oper → Frame → (Frame → Prop) → Prop
 | [], F, k => k F
 | o :: rest, F, k => ∃ d v, o.dst = some d ∧ Nat.blt d N = true ∧ QStep P w0 N G ops o F v ∧ QList P w0 N G ops rest (upd F d v) k
/-- The others, one behind the other. -/
def MList (P : Program) (w0 : World) (N : Nat) (G : List Ent → Prop) : List Oper → Frame → List Ent → (Frame → List Ent → Prop) → Prop
 | [], F, es, k => k F es
 | o :: rest, F, es, k => ∀ f : Frame, (∀ x ∈ o.op.operands, ev f x = ev F x) → AOp P w0 N o f es fun f' es' => ∃ v, f' = put f o.dst v ∧ G es' ∧ MList P w0 N G rest (put F o.dst v) es' k

theorem ok_drew {c : Core} {es : List Ent} (h : Ok w0 c es) : Ext c es { c with w := { c.w with drawn := c.w.drawn + 1 } } es ∧ Ok w0 { c with w := { c.w with drawn := c.w.drawn + 1 } } es := by
 have x : Ext c es { c with w := { c.w with drawn := c.w.drawn + 1 } } es := ⟨Nat.le_refl _, Nat.le_succ _, fun b hb => ⟨hb, rfl⟩, fun id s e sz rows hr _ => ⟨rows, hr, rfl, rfl⟩, fun id s kvs hr _ => ⟨kvs, hr, rfl⟩⟩
 refine ⟨x, ⟨h.below.drew, h.old, h.lt, fun id y hy => ?_, h.inj, h.injm⟩⟩
 cases y with
 | dead => trivial
 | mp s kvs =>
  have he := h.ent id _ hy
  exact he.extm x rfl (fun g cap hg => he.2.1 g cap hg) (fun _ _ _ => rfl)
 | row s e sz rows =>
  have he := h.ent id _ hy
  exact he.ext x rfl (fun g cap hg => he.2.2.1 g cap hg) (fun xs ho => ho)

def blocked (l : List Oper) (m : Nat) (listed : Array Bool) (t : Nat) : Bool := (l.take m).zipIdx.any fun x => x.1.dst == some t && !(listed.getD x.2 true)
def mix (l : List Oper) (m : Nat) (listed : Array Bool) (F : Frame) : Frame := fun t => if blocked l m listed t then .any else F t
theorem blocked_iff {l : List Oper} {m : Nat} {listed : Array Bool} {t : Nat} : blocked l m listed t = true ↔ ∃ j o, j < m ∧ l[j]? = some o ∧ o.dst = some t ∧ listed.getD j true = false := by
 simp only [blocked, List.any_eq_true, Bool.and_eq_true, Bool.not_eq_true', beq_iff_eq]
 constructor
 ·rintro ⟨⟨o, j⟩, hm, h1, h2⟩
  have := List.mem_zipIdx_iff_getElem?.1 hm
  simp only [List.getElem?_take] at this
  split at this
  ·exact ⟨j, o, by assumption, by simpa using this, h1, h2⟩
  ·cases this
 ·rintro ⟨j, o, hjm, h1, h2, h3⟩
  exact ⟨⟨o, j⟩, List.mem_zipIdx_iff_getElem?.2 (by simpa using take_get hjm h1), h2, h3⟩
def IsL (listed : Array Bool) (j : Nat) : Prop := listed.getD j false = true
theorem isL_t {listed : Array Bool} {j : Nat} (h : j < listed.size) : IsL listed j ↔ listed.getD j true = true := by
 simp only [IsL, Array.getD_eq_getD_getElem?, Array.getElem?_eq_getElem h, Option.getD_some]
theorem isL_f {listed : Array Bool} {j : Nat} (h : j < listed.size) : ¬ IsL listed j ↔ listed.getD j true = false := by
 rw [isL_t h]; simp
theorem isL_set {listed : Array Bool} {i j : Nat} (h : i < listed.size) : IsL (listed.setIfInBounds i true) j ↔ (j = i ∨ IsL listed j) := by
 unfold IsL
 by_cases hji : j = i
 ·subst hji
  rw [Array.getD_eq_getD_getElem?, Array.getElem?_setIfInBounds_self_of_lt h]
  simp
 ·rw [Array.getD_eq_getD_getElem?, Array.getElem?_setIfInBounds_ne (Ne.symm hji), ← Array.getD_eq_getD_getElem?]
  simp [hji]
theorem ready_iff {l : List Oper} {listed : Array Bool} {i : Nat} (hs : listed.size = l.length) : i ∈ Region.ready .any l.toArray listed ↔ ∃ h : i < l.length, ¬ IsL listed i ∧ ∀ j ∈ preds l[i], IsL listed j := by
 simp only [Region.ready, List.mem_filter, List.mem_range, Bool.and_eq_true, Bool.not_eq_true', List.size_toArray]
 constructor
 ·rintro ⟨h1, h2, h3⟩
  refine ⟨h1, (isL_f (by omega)).2 h2, fun j hj => ?_⟩
  obtain ⟨e, he, hb, rfl⟩ := mem_preds.1 hj
  simp only [List.getElem?_toArray, List.getElem?_eq_getElem h1, Option.map_some, Option.getD_some] at h3
  rw [Array.all_eq_true_iff_forall_mem] at h3
  have := h3 e he
  rw [hb] at this
  simpa [IsL] using this
 ·rintro ⟨h1, h2, h3⟩
  refine ⟨h1, (isL_f (by omega)).1 h2, ?_⟩
  simp only [List.getElem?_toArray, List.getElem?_eq_getElem h1, Option.map_some, Option.getD_some]
  rw [Array.all_eq_true_iff_forall_mem]
  intro e he
  cases hb : Region.binds .any e with
  | false => rfl
  | true =>
   have := h3 e.on (mem_preds.2 ⟨e, he, hb, rfl⟩)
   simpa [IsL] using this

/-- The frame at the end of the quiet part: each quiet operation is shown at it. -/
theorem qlist_end {G : List Ent → Prop} {ops : Array Oper} : ∀ {l : List Oper} {F0 : Frame} {k : Frame → Prop}, QList P w0 N G ops l F0 k →
  (∀ (i : Nat) (o : Oper) (t : Nat), l[i]? = some o → t ∈ looks ops.toList o → ∀ (j : Nat) (o' : Oper), l[j]? = some o' → o'.dst = some t → j < i) →
  (∀ (i j : Nat) (o o' : Oper) (d : Nat), l[i]? = some o → l[j]? = some o' → o.dst = some d → o'.dst = some d → i = j) →
  ∃ F, k F ∧ (∀ t, (∀ o ∈ l, o.dst ≠ some t) → F t = F0 t) ∧ ∀ o ∈ l, ∃ d v, o.dst = some d ∧ Nat.blt d N = true ∧ F d = v ∧ QStep P w0 N G ops o F v
 | [], F0, k, h, _, _ => ⟨F0, h, fun _ _ => rfl, fun o ho => by cases ho⟩
 | o :: rest, F0, k, h, hl, hd => by
  obtain ⟨d, v, h1, h2, h3, h4⟩ := h
  obtain ⟨F, e1, e2, e3⟩ := qlist_end (l := rest) h4
   (fun i o2 t hi ht j o' hj hdj => by have := hl (i + 1) o2 t (by simpa using hi) ht (j + 1) o' (by simpa using hj) hdj; omega)
   (fun i j o1 o' d' hi hj h5 h6 => by have := hd (i + 1) (j + 1) o1 o' d' (by simpa using hi) (by simpa using hj) h5 h6; omega)
  have hFd : F d = v := by
   rw [e2 d fun o' ho' hd' => ?_, upd_same]
   obtain ⟨j, hj⟩ := List.mem_iff_getElem?.1 ho'
   have := hd 0 (j + 1) o o' d rfl (by simpa using hj) h1 hd'
   omega
  have hsame : ∀ t ∈ looks ops.toList o, F t = F0 t := by
   intro t ht
   have hne : t ≠ d := by
    intro e
    subst e
    have := hl 0 o t rfl ht 0 o rfl h1
    omega
   rw [e2 t fun o' ho' hd' => ?_, upd_ne _ _ hne]
   obtain ⟨j, hj⟩ := List.mem_iff_getElem?.1 ho'
   have := hl 0 o t rfl ht (j + 1) o' (by simpa using hj) hd'
   omega
  refine ⟨F, e1, fun t ht => ?_, fun o' ho' => ?_⟩
  ·rw [e2 t fun o' ho' => ht o' (List.mem_cons_of_mem _ ho')]
   exact upd_ne _ _ (fun e => ht o (by simp) (e ▸ h1))
  ·rcases List.mem_cons.1 ho' with rfl | ho'
   ·refine ⟨d, v, h1, h2, hFd, ?_⟩
    have hev : ∀ x ∈ o'.op.operands, ev F x = ev F0 x := by
     intro x hx
     cases x with
     | tmp t => exact hsame t (by simp only [looks, List.mem_append, List.mem_filterMap]; exact .inl ⟨.tmp t, by simpa using hx, rfl⟩)
     | _ => rfl
    have up : ∀ {v : AV} {es}, QOp P w0 N o' F0 v es → QOp P w0 N o' F v es := fun hq f hf => hq f fun x hx => (hf x hx).trans (hev x hx)
    unfold QStep at h3 ⊢
    split at h3
    ·rename_i hg
     exact fun es hes => up (h3 es hes)
    ·rename_i j want hg
     obtain ⟨gd, g1, g2, g3⟩ := h3
     have hgd : F gd = F0 gd := by
      refine hsame gd ?_
      simp only [looks, List.mem_append, hg]
      right
      have g1' : (ops.toList[j]?).bind (·.dst) = some gd := by simpa using g1
      rw [g1']
      simp
     refine ⟨gd, g1, g2, ?_⟩
     rw [hgd]
     rcases g3 with g3 | g3
     ·exact .inl ⟨g3.1, fun es hes => up (g3.2 es hes)⟩
     ·exact .inr g3
   ·exact e3 o' ho'
end
end
section
open Go.RowKit
def quietsFrom (ms : List Nat) : List Oper → Nat → List Oper
 | [], _ => []
 | o :: r, i => match ms.contains i with
  | true => quietsFrom ms r (i + 1)
  | false => o :: quietsFrom ms r (i + 1)
theorem mem_quietsFrom {ms : List Nat} {o : Oper} : ∀ {l : List Oper} {i : Nat}, o ∈ quietsFrom ms l i ↔ ∃ j, l[j]? = some o ∧ i + j ∉ ms
 | [], i => by simp [quietsFrom]
 | x :: r, i => by
  unfold quietsFrom
  cases hc : ms.contains i with
  | true =>
   simp only []
   rw [mem_quietsFrom]
   constructor
   ·rintro ⟨j, h1, h2⟩
    exact ⟨j + 1, by simpa using h1, by rwa [show i + (j + 1) = i + 1 + j by omega]⟩
   ·rintro ⟨j, h1, h2⟩
    rcases j with _ | j
    ·exact absurd (List.contains_iff_mem.1 hc) (by simpa using h2)
    ·exact ⟨j, by simpa using h1, by rwa [show i + 1 + j = i + (j + 1) by omega]⟩
  | false =>
   simp only [List.mem_cons]
   rw [mem_quietsFrom]
   constructor
   ·rintro (rfl | ⟨j, h1, h2⟩)
    ·exact ⟨0, rfl, fun h => by rw [Nat.add_zero, ← List.contains_iff_mem, hc] at h; cases h⟩
    ·exact ⟨j + 1, by simpa using h1, by rwa [show i + (j + 1) = i + 1 + j by omega]⟩
   ·rintro ⟨j, h1, h2⟩
    rcases j with _ | j
    ·exact .inl (by simpa using h1.symm)
    ·exact .inr ⟨j, by simpa using h1, by rwa [show i + 1 + j = i + (j + 1) by omega]⟩
/-- Where each of the quiet ones stands in the text: in the same order. -/
theorem quietsFrom_idx {ms : List Nat} : ∀ {l : List Oper} {i : Nat}, ∃ g : Nat → Nat, (∀ p q, p < q → g p < g q) ∧ ∀ p o, (quietsFrom ms l i)[p]? = some o → l[g p]? = some o ∧ i + g p ∉ ms
 | [], i => ⟨fun p => p, fun _ _ h => h, fun p o h => by simp [quietsFrom] at h⟩
 | x :: r, i => by
  obtain ⟨g, hg, h⟩ := quietsFrom_idx (ms := ms) (l := r) (i := i + 1)
  cases hc : ms.contains i with
  | true =>
   refine ⟨fun p => g p + 1, fun p q hpq => Nat.succ_lt_succ (hg p q hpq), fun p o ho => ?_⟩
   unfold quietsFrom at ho
   simp only [hc] at ho
   have := h p o ho
   exact ⟨by simpa using this.1, by rw [show i + (g p + 1) = i + 1 + g p by omega]; exact this.2⟩
  | false =>
   refine ⟨fun p => match p with | 0 => 0 | p + 1 => g p + 1, fun p q hpq => ?_, fun p o ho => ?_⟩
   ·rcases p with _ | p <;> rcases q with _ | q
    ·omega
    ·simp only []; omega
    ·omega
    ·exact Nat.succ_lt_succ (hg p q (by omega))
   ·unfold quietsFrom at ho
    simp only [hc] at ho
    rcases p with _ | p
    ·refine ⟨by simpa using ho, fun hm => ?_⟩
     simp only [Nat.add_zero] at hm
     rw [← List.contains_iff_mem, hc] at hm
     cases hm
    ·have := h p o (by simpa using ho)
     exact ⟨by simpa using this.1, by simp only []; rw [show i + (g p + 1) = i + 1 + g p by omega]; exact this.2⟩
def mainsOf (l : List Oper) : List Nat → List Oper
 | [] => []
 | j :: r => match l[j]? with
  | some o => o :: mainsOf l r
  | none => mainsOf l r
section
variable {P : Program} {w0 : World} {N : Nat}

theorem all_of_none_ready {l : List Oper} {m : Nat} {ms : List Nat} (H : DrawOk l m ms) {listed : Array Bool} (hs : listed.size = l.length) (hnil : Region.ready .any l.toArray listed = []) : ∀ j, j < l.length → IsL listed j := by
 intro j
 induction j using Nat.strongRecOn with
 | _ j ihj =>
  intro hj
  by_cases h : IsL listed j
  ·exact h
  ·exfalso
   have : j ∈ Region.ready .any l.toArray listed := (ready_iff hs).2 ⟨hj, h, fun k hk => by
    have := H.back j _ (List.getElem?_eq_getElem hj) k hk
    exact ihj k this (by omega)⟩
   rw [hnil] at this
   cases this

/-- What is listed: all up to k, nothing behind. -/
theorem tail_run {l : List Oper} {m : Nat} {ms : List Nat} (H : DrawOk l m ms) {Q : Exit → Act → World → Prop} : ∀ (fuel k : Nat) (listed : Array Bool) (a : Act) (w : World), m ≤ k → listed.size = l.length → l.length ≤ k + fuel →
  (∀ j, j < l.length → (IsL listed j ↔ j < k)) → wpList P l.toArray Q (l.drop k) a w → wpAny P .any l.toArray Q fuel listed a w := by
 intro fuel
 induction fuel with
 | zero =>
  intro k listed a w hmk hs hle hls h
  rw [List.drop_of_length_le (by omega)] at h
  refine ⟨?_, h⟩
  refine List.eq_nil_iff_forall_not_mem.2 fun i hi => ?_
  obtain ⟨h1, h2, _⟩ := (ready_iff hs).1 hi
  exact h2 ((hls i h1).2 (by omega))
 | succ fuel ih =>
  intro k listed a w hmk hs hle hls h
  have hcl : Closed l (IsL listed) := fun i o hi hL j hj => by
   have hil := (List.getElem?_eq_some_iff.1 hi).1
   have := H.back i o hi j hj
   exact (hls j (by omega)).2 (by have := (hls i hil).1 hL; omega)
  refine ⟨fun hnil => ?_, fun i hi => ?_⟩
  ·have := all_of_none_ready H hs hnil
   by_cases hk : k < l.length
   ·exact absurd ((hls k hk).1 (this k hk)) (by omega)
   ·rw [List.drop_of_length_le (by omega)] at h
    exact h
  ·obtain ⟨hil, hn, hp⟩ := (ready_iff hs).1 hi
   have hki : ¬ i < k := fun e => hn ((hls i hil).2 e)
   have : i = k := by
    rcases Nat.lt_or_ge k i with hlt | hge
    ·have := H.tail _ hcl i _ (by omega) (List.getElem?_eq_getElem hil) hp k hlt
     exact absurd ((hls k (by omega)).1 this) (by omega)
    ·omega
   subst this
   rw [List.drop_eq_getElem_cons hil] at h
   have hw : wpOp P l.toArray Q i (wpList P l.toArray Q (l.drop (i + 1))) a w := by
    simp only [wpList] at h
    simpa [wpOp, hil] using h
   refine wpOp_mono (fun a' w' h' => ?_) hw
   refine ih (i + 1) _ a' w' (by omega) (by simpa using hs) (by omega) (fun j hj => ?_) h'
   rw [isL_set (by omega), hls j hj]
   omega

set_option maxHeartbeats 1000000 in
theorem w_draw {id : Nat} {l : List Oper} {f : Frame} {es : List Ent} {K : Exit → Frame → List Ent → Prop} (m : Nat) (ms : List Nat) (G : List Ent → Prop) (hm : P.follows .mixedOrders = true) (hq : drawOk l m ms = true) (hG : G es)
    (hdst : ∀ o ∈ l, dok N o.dst = true)
    (h : QList P w0 N G l.toArray (quietsFrom ms (l.take m) 0) f fun F => MList P w0 N G (mainsOf l ms) F es fun F' es' => AList P w0 N l.toArray (l.drop m) F' es' (K .normal)) : AWp P w0 N (.region id l.toArray true) f es K := by
  have H := drawOk_of hq
  obtain ⟨gi, hgi, hgo⟩ := quietsFrom_idx (ms := ms) (l := l.take m) (i := 0)
  simp only [Nat.zero_add] at hgo
  have hgm : ∀ p o, (quietsFrom ms (l.take m) 0)[p]? = some o → gi p < m ∧ l[gi p]? = some o ∧ gi p ∉ ms := by
    intro p o hp
    have h1 := hgo p o hp
    have h2 := (List.getElem?_eq_some_iff.1 h1.1).1
    rw [List.length_take] at h2
    have h3 : gi p < m := by omega
    rw [List.getElem?_take, if_pos h3] at h1
    exact ⟨h3, h1.1, h1.2⟩
  have ginj : ∀ p q, gi p = gi q → p = q := by
    intro p q e
    rcases Nat.lt_trichotomy p q with h | h | h
    · have := hgi p q h; omega
    · exact h
    · have := hgi q p h; omega
  obtain ⟨F1, hk1, hbase, hquiet⟩ := qlist_end h
    (fun i o t hi ht j o' hj hd => by
      obtain ⟨h1, h2, h3⟩ := hgm i o hi
      obtain ⟨h4, h5, h6⟩ := hgm j o' hj
      have := H.wait _ _ h1 h2 t ht _ _ h4 h5 hd
      have := H.back _ _ h2 _ this.1
      rcases Nat.lt_or_ge j i with h7 | h7
      · exact h7
      · exfalso
        rcases Nat.lt_or_eq_of_le h7 with h8 | h8
        · have := hgi _ _ h8; omega
        · subst h8; omega)
    (fun i j o o' d hi hj hd hd' => by
      obtain ⟨h1, h2, h3⟩ := hgm i o hi
      obtain ⟨h4, h5, h6⟩ := hgm j o' hj
      exact ginj _ _ (H.dist _ _ _ _ d h1 h4 h2 h5 hd hd'))
  have hquiet' : ∀ (i : Nat) (o : Oper), i < m → i ∉ ms → l[i]? = some o → ∃ d v, o.dst = some d ∧ Nat.blt d N = true ∧ F1 d = v ∧ QStep P w0 N G l.toArray o F1 v := by
    intro i o him hn hi
    exact hquiet o (mem_quietsFrom.2 ⟨i, take_get him hi, by simpa using hn⟩)
  intro c A Q ok rf hk
  obtain ⟨x0, ok0⟩ := ok_drew ok
  refine wp_region_any hm ?_
  have key : ∀ (fuel : Nat) (listed : Array Bool) (c' : Core) (es' : List Ent) (F : Frame) (A' : Act) (rem : List Nat) (p : Nat), listed.size = l.length → ((listed.toList.take m).count false + (l.length - m) ≤ fuel) →
      Closed l (IsL listed) → (∀ j, m ≤ j → j < l.length → ¬ IsL listed j) → (rem = ms.drop p ∧ p ≤ ms.length ∧ (∀ j ∈ ms.take p, IsL listed j) ∧ ∀ j ∈ rem, ¬ IsL listed j) →
      Ext c es c' es' → Ok w0 c' es' → G es' → RepF N c' es' (mix l m listed F) A' →
      (∀ t, (∀ j ∈ ms, ∀ o, l[j]? = some o → o.dst ≠ some t) → F t = F1 t) →
      MList P w0 N G (mainsOf l rem) F es' (fun F' es' => AList P w0 N l.toArray (l.drop m) F' es' (K .normal)) →
      wpAny P .any l.toArray Q fuel listed A' c'.w := by
    intro fuel
    induction fuel with
    | zero =>
      intro listed c' es' F A' rem p hs hc hcl htl hrem x ok' hG' rf' hF hM
      have hlm : l.length = m := by have := H.le; omega
      have all : ∀ j, j < l.length → IsL listed j := by
        intro j hj
        refine Classical.byContradiction fun hn => ?_
        rw [isL_f (by omega)] at hn
        have hj' : j < listed.size := by omega
        have : false ∈ listed.toList.take m := by
          rw [List.take_of_length_le (by simp; omega), ← hn]
          simp [hj']
        have := List.count_pos_iff.2 this
        omega
      have hnr : rem = [] := by
        refine List.eq_nil_iff_forall_not_mem.2 fun j hj => ?_
        have hjm : j ∈ ms := by rw [hrem.1] at hj; exact List.mem_of_mem_drop hj
        exact hrem.2.2.2 j hj (all j (by have := H.lt j hjm; omega))
      subst hnr
      have hFm : mix l m listed F = F := by
        funext t
        unfold mix
        cases hb : blocked l m listed t with
        | false => rfl
        | true =>
          obtain ⟨j, o, _, h1, _, h3⟩ := blocked_iff.1 hb
          have hjl := (List.getElem?_eq_some_iff.1 h1).1
          exact absurd (all j hjl) ((isL_f (by omega)).2 h3)
      refine tail_run H 0 m listed A' c'.w (Nat.le_refl _) hs (by omega) (fun j hj => ⟨fun _ => by omega, fun _ => all j hj⟩) ?_
      simp only [mainsOf, MList] at hM
      exact hM c' A' Q ok' (hFm ▸ rf') fun c2 es2 f2 A2 x2 ok2 rf2 k2 => hk _ c2 es2 f2 A2 (x.trans x2) ok2 rf2 k2
    | succ fuel ih =>
      intro listed c' es' F A' rem p hs hc hcl htl hrem x ok' hG' rf' hF hM
      by_cases hall : ∀ j, j < m → IsL listed j
      · have hnr : rem = [] := by
          refine List.eq_nil_iff_forall_not_mem.2 fun j hj => ?_
          have hjm : j ∈ ms := by rw [hrem.1] at hj; exact List.mem_of_mem_drop hj
          exact hrem.2.2.2 j hj (hall j (H.lt j hjm))
        subst hnr
        have hFm : mix l m listed F = F := by
          funext t
          unfold mix
          cases hb : blocked l m listed t with
          | false => rfl
          | true =>
            obtain ⟨j, o, hjm, h1, _, h3⟩ := blocked_iff.1 hb
            have hjl := (List.getElem?_eq_some_iff.1 h1).1
            exact absurd (hall j hjm) ((isL_f (by omega)).2 h3)
        refine tail_run H (fuel + 1) m listed A' c'.w (Nat.le_refl _) hs (by omega) (fun j hj => ⟨fun hL => ?_, fun hlt => hall j hlt⟩) ?_
        · rcases Nat.lt_or_ge j m with h | h
          · exact h
          · exact absurd hL (htl j h hj)
        simp only [mainsOf, MList] at hM
        exact hM c' A' Q ok' (hFm ▸ rf') fun c2 es2 f2 A2 x2 ok2 rf2 k2 => hk _ c2 es2 f2 A2 (x.trans x2) ok2 rf2 k2
      · refine ⟨fun hnil => absurd (fun j hj => all_of_none_ready H hs hnil j (by have := H.le; omega)) hall, fun i hi => ?_⟩
        obtain ⟨hil, hn, hp⟩ := (ready_iff hs).1 hi
        have hio : l[i]? = some l[i] := List.getElem?_eq_getElem hil
        have him : i < m := by
          rcases Nat.lt_or_ge i m with h | h
          · exact h
          · exact absurd (fun j hj => H.tail _ hcl i _ h hio hp j (by omega)) hall
        have hils : i < listed.size := by omega
        -- what it looks at is there
        have there : ∀ t ∈ looks l l[i], blocked l m listed t = false := by
          intro t ht
          cases hb : blocked l m listed t with
          | false => rfl
          | true =>
            exfalso
            obtain ⟨j, o', hjm, h1, h2, h3⟩ := blocked_iff.1 hb
            have := hp j (H.wait i _ him hio t ht j o' hjm h1 h2).1
            exact (isL_f (by have := (List.getElem?_eq_some_iff.1 h1).1; omega)).2 h3 this
        have hcnt : (((listed.setIfInBounds i true).toList.take m).count false) + (l.length - m) ≤ fuel := by
          rw [Array.toList_setIfInBounds, List.take_set, List.count_set (by simp; omega)]
          have hfl := (isL_f hils).1 hn
          rw [Array.getD_eq_getD_getElem?, Array.getElem?_eq_getElem hils] at hfl
          simp only [Option.getD_some] at hfl
          have : (listed.toList.take m)[i]'(by simp; omega) = false := by simpa using hfl
          have e2 : (true == false) = false := rfl
          have hpos : 0 < (listed.toList.take m).count false := by
            rw [List.count_pos_iff, ← this]
            exact List.getElem_mem _
          simp only [this, beq_self_eq_true, if_true, e2, Bool.false_eq_true, if_false]
          omega
        have hcl' : Closed l (IsL (listed.setIfInBounds i true)) := by
          intro k o hko hL j hj
          rw [isL_set hils] at hL ⊢
          rcases hL with rfl | hL
          · rw [hio] at hko
            injection hko with e
            subst e
            exact .inr (hp j hj)
          · exact .inr (hcl k o hko hL j hj)
        have htl' : ∀ j, m ≤ j → j < l.length → ¬ IsL (listed.setIfInBounds i true) j := by
          intro j hmj hjl hL
          rw [isL_set hils] at hL
          rcases hL with rfl | hL
          · omega
          · exact htl j hmj hjl hL
        have hmix : ∀ (F2 : Frame) (d : Nat) (v : AV), (l[i]).dst = some d → F2 d = v → (∀ t, t ≠ d → F2 t = F t) → put (mix l m listed F) (some d) v = mix l m (listed.setIfInBounds i true) F2 := by
          intro F2 d v hd hv hne
          funext t
          simp only [put, upd, mix]
          by_cases htd : t = d
          · subst htd
            rw [if_pos rfl, if_neg, hv]
            intro hb
            obtain ⟨j, o', hjm, h1, h2, h3⟩ := blocked_iff.1 hb
            have : j = i := H.dist j i o' _ t hjm him h1 hio h2 hd
            subst this
            exact (isL_f (by simpa using hils)).2 h3 ((isL_set hils).2 (.inl rfl))
          · rw [if_neg htd, hne t htd]
            have : blocked l m (listed.setIfInBounds i true) t = blocked l m listed t := by
              rw [Bool.eq_iff_iff, blocked_iff, blocked_iff]
              have hji : ∀ {j o'}, l[j]? = some o' → o'.dst = some t → j ≠ i := by
                rintro j o' h1 h2 rfl
                rw [hio] at h1
                injection h1 with h1
                subst h1
                rw [hd] at h2
                injection h2 with h2
                exact htd h2.symm
              constructor
              · rintro ⟨j, o', hjm, h1, h2, h3⟩
                have hj := (List.getElem?_eq_some_iff.1 h1).1
                refine ⟨j, o', hjm, h1, h2, (isL_f (by omega)).1 fun hL => ?_⟩
                exact (isL_f (by simp; omega)).2 h3 ((isL_set hils).2 (.inr hL))
              · rintro ⟨j, o', hjm, h1, h2, h3⟩
                have hj := (List.getElem?_eq_some_iff.1 h1).1
                refine ⟨j, o', hjm, h1, h2, (isL_f (by simp; omega)).1 fun hL => ?_⟩
                rcases (isL_set hils).1 hL with e | hL
                · exact hji h1 h2 e
                · exact (isL_f (by omega)).2 h3 hL
            rw [this]
        simp only [wpOp, List.getElem?_toArray, hio]
        by_cases hmain : i ∈ ms
        · -- a main one: the first that is left
          obtain ⟨hr1, hr2, hr3, hr4⟩ := hrem
          have hgd := H.plain i _ him hmain hio
          rw [if_pos (by simp [Region.wanted, hgd])]
          left
          have hprev := H.chain _ hcl i _ him hmain hio hp
          have hir : i ∈ rem := by
            rw [hr1]
            rw [← List.take_append_drop p ms] at hmain
            rcases List.mem_append.1 hmain with h | h
            · exact absurd (hr3 i h) hn
            · exact h
          match rem, hr1, hr4, hir, hM with
          | [], _, _, hir, _ => cases hir
          | r0 :: rest, hr1, hr4, hir, hM =>
            have hpl : p < ms.length := by
              rcases Nat.lt_or_ge p ms.length with h | h
              · exact h
              · rw [List.drop_of_length_le h] at hr1; cases hr1
            rw [List.drop_eq_getElem_cons hpl] at hr1
            injection hr1 with e1 e2
            have hi0 : i = r0 := by
              rcases List.mem_cons.1 hir with h | h
              · exact h
              · exfalso
                have hr0m : r0 ∈ ms := by rw [e1]; exact List.getElem_mem _
                have hlt : r0 < i := by
                  have hp2 := H.rise
                  rw [← List.take_append_drop p ms, List.drop_eq_getElem_cons hpl] at hp2
                  have := (List.pairwise_append.1 hp2).2.1
                  rw [List.pairwise_cons] at this
                  rw [e1]
                  exact this.1 i (e2 ▸ h)
                exact hr4 r0 (by simp) (hprev r0 hr0m hlt)
            subst hi0
            have hMl : mainsOf l (i :: rest) = l[i] :: mainsOf l rest := by simp only [mainsOf, hio]
            rw [hMl] at hM
            simp only [MList] at hM
            refine hM (mix l m listed F) (fun o ho => ?_) c' A' _ Q ok' rf' fun c2 es2 f2 A2 x2 ok2 rf2 hk2 => ?_
            · cases o with
              | tmp t =>
                have : t ∈ looks l l[i] := by
                  simp only [looks, List.mem_append, List.mem_filterMap]
                  exact .inl ⟨.tmp t, by simpa using ho, rfl⟩
                simp only [ev, mix, there t this, Bool.false_eq_true, if_false]
              | _ => rfl
            · obtain ⟨v, rfl, hG2, hM2⟩ := hk2
              have hrem2 : rest = ms.drop (p + 1) ∧ p + 1 ≤ ms.length ∧ (∀ j ∈ ms.take (p + 1), IsL (listed.setIfInBounds i true) j) ∧ ∀ j ∈ rest, ¬ IsL (listed.setIfInBounds i true) j := by
                refine ⟨e2, hpl, fun j hj => ?_, fun j hj hL => ?_⟩
                · rw [isL_set hils]
                  rw [List.take_add_one, List.getElem?_eq_getElem hpl] at hj
                  rcases List.mem_append.1 hj with h | h
                  · exact .inr (hr3 j h)
                  · left
                    simp only [Option.toList_some, List.mem_singleton] at h
                    rw [h, e1]
                · rw [isL_set hils] at hL
                  rcases hL with rfl | hL
                  · have hp2 := H.rise
                    rw [← List.take_append_drop p ms, List.drop_eq_getElem_cons hpl] at hp2
                    have := (List.pairwise_append.1 hp2).2.1
                    rw [List.pairwise_cons, ← e1, ← e2] at this
                    have := this.1 _ hj
                    omega
                  · exact hr4 j (List.mem_cons_of_mem _ hj) hL
              cases hd : (l[i]).dst with
              | some d =>
                rw [hd] at rf2 hM2
                rw [hmix (upd F d v) d v hd (upd_same ..) (fun t ht => upd_ne _ _ ht)] at rf2
                refine ih _ c2 es2 (upd F d v) A2 rest (p + 1) (by simpa using hs) hcnt hcl' htl' hrem2 (x.trans x2) ok2 hG2 rf2 (fun t ht => ?_) hM2
                rw [upd_ne _ _ (fun e => ht i hmain _ hio (by rw [e]; exact hd)), hF t ht]
              | none =>
                rw [hd] at rf2 hM2
                have hsm : mix l m (listed.setIfInBounds i true) F = mix l m listed F := by
                  funext t
                  simp only [mix]
                  have : blocked l m (listed.setIfInBounds i true) t = blocked l m listed t := by
                    rw [Bool.eq_iff_iff, blocked_iff, blocked_iff]
                    have hji : ∀ {j o'}, l[j]? = some o' → o'.dst = some t → j ≠ i := by
                      rintro j o' h1 h2 rfl
                      rw [hio] at h1
                      injection h1 with h1
                      subst h1
                      rw [hd] at h2
                      cases h2
                    constructor
                    · rintro ⟨j, o', hjm, h1, h2, h3⟩
                      have hj := (List.getElem?_eq_some_iff.1 h1).1
                      refine ⟨j, o', hjm, h1, h2, (isL_f (by omega)).1 fun hL => ?_⟩
                      exact (isL_f (by simp; omega)).2 h3 ((isL_set hils).2 (.inr hL))
                    · rintro ⟨j, o', hjm, h1, h2, h3⟩
                      have hj := (List.getElem?_eq_some_iff.1 h1).1
                      refine ⟨j, o', hjm, h1, h2, (isL_f (by simp; omega)).1 fun hL => ?_⟩
                      rcases (isL_set hils).1 hL with e | hL
                      · exact hji h1 h2 e
                      · exact (isL_f (by omega)).2 h3 hL
                  rw [this]
                refine ih _ c2 es2 F A2 rest (p + 1) (by simpa using hs) hcnt hcl' htl' hrem2 (x.trans x2) ok2 hG2 ?_ hF hM2
                rw [hsm]
                exact rf2
        · -- a quiet one
          obtain ⟨d, v, hd, hdN, hv, step⟩ := hquiet' i _ him hmain hio
          have hFd : F d = v := by
            rw [hF d fun j hj o hjo hjd => ?_, hv]
            have : j = i := H.dist j i o _ d (H.lt j hj) him hjo hio hjd hd
            subst this
            exact hmain hj
          have hFl : ∀ t ∈ looks l l[i], F t = F1 t := by
            intro t ht
            refine hF t fun j hj o hjo hjd => ?_
            exact hmain ((H.wait i _ him hio t ht j o (H.lt j hj) hjo hjd).2 hj)
          have hrem2 : rem = ms.drop p ∧ p ≤ ms.length ∧ (∀ j ∈ ms.take p, IsL (listed.setIfInBounds i true) j) ∧ ∀ j ∈ rem, ¬ IsL (listed.setIfInBounds i true) j := by
            refine ⟨hrem.1, hrem.2.1, fun j hj => (isL_set hils).2 (.inr (hrem.2.2.1 j hj)), fun j hj hL => ?_⟩
            rcases (isL_set hils).1 hL with rfl | hL
            · exact hmain (by have := hrem.1 ▸ hj; exact List.mem_of_mem_drop this)
            · exact hrem.2.2.2 j hj hL
          have go : (∀ es, G es → QOp P w0 N l[i] F1 v es) → (l[i]).wp P A' c'.w (wpAny P .any l.toArray Q fuel (listed.setIfInBounds i true)) Q := by
            intro hqo
            refine hqo es' hG' (mix l m listed F) (fun o ho => ?_) c' A' _ Q ok' rf' fun c2 es2 f2 A2 x2 ok2 rf2 hk2 => ?_
            · cases o with
              | tmp t =>
                have : t ∈ looks l l[i] := by
                  simp only [looks, List.mem_append, List.mem_filterMap]
                  exact .inl ⟨.tmp t, by simpa using ho, rfl⟩
                simp only [ev, mix, there t this, Bool.false_eq_true, if_false]
                exact hFl t this
              | _ => rfl
            · obtain ⟨rfl, rfl⟩ := hk2
              rw [hd] at rf2
              rw [hmix F d v hd hFd (fun _ _ => rfl)] at rf2
              exact ih _ c2 es2 F A2 rem p (by simpa using hs) hcnt hcl' htl' hrem2 (x.trans x2) ok2 hG' rf2 hF hM
          unfold QStep at step
          split at step
          · rename_i hg
            rw [if_pos (by simp [Region.wanted, hg])]
            exact .inl (go step)
          · rename_i j want hg
            obtain ⟨gd, h1, h2, h3⟩ := step
            have hgl : gd ∈ looks l l[i] := by
              simp only [looks, List.mem_append, hg]
              right
              have h1' : (l[j]?).bind (·.dst) = some gd := by simpa using h1
              rw [h1']
              simp
            have hfd : mix l m listed F gd = F1 gd := by
              simp only [mix, there gd hgl, Bool.false_eq_true, if_false]
              exact hFl gd hgl
            rcases h3 with ⟨h3, h4⟩ | ⟨h3, h5⟩
            · have hy := yielded_of (ops := l.toArray) rf' h1 h2 (hfd.trans h3)
              rw [if_pos (by simp [Region.wanted, hg, hy])]
              exact .inl (go h4)
            · have hskip : Region.wanted l[i] (yielded l.toArray A'.tmps) = false := by
                rcases h3 with h3 | h3
                · have hy := yielded_of (ops := l.toArray) rf' h1 h2 (hfd.trans h3)
                  simp [Region.wanted, hg, hy]
                · have hy := yielded_undef (ops := l.toArray) rf' h1 (hfd.trans h3)
                  simp [Region.wanted, hg, hy]
              rw [hskip]
              simp only [Bool.false_eq_true, if_false]
              have rf2 := rf'.put (d := (l[i]).dst) (hdst _ (List.mem_of_getElem? hio)) (a := .raw undef) (v := undef) (by simp only [Rep])
              rw [hd, ← h5, hmix F d v hd hFd (fun _ _ => rfl), ← hd] at rf2
              exact ih _ c' es' F _ rem p (by simpa using hs) hcnt hcl' htl' hrem2 x ok' hG' rf2 hF hM
  refine key l.toArray.size (Array.replicate l.toArray.size false) _ es F1 A ms 0 (by simp) ?_ ?_ ?_ ⟨rfl, Nat.zero_le _, by simp, ?_⟩ x0 ok0 hG ?_ (fun _ _ => rfl) hk1
  · have := List.count_le_length (a := false) (l := (Array.replicate l.toArray.size false).toList.take m)
    simp only [List.length_take, Array.length_toList, Array.size_replicate, List.size_toArray] at this ⊢
    have := H.le
    omega
  · intro k o hko hL
    have := (List.getElem?_eq_some_iff.1 hko).1
    simp [IsL, this] at hL
  · intro j _ hj hL
    simp [IsL, hj] at hL
  · intro j hj hL
    have hjl : j < l.length := by have := H.lt j hj; have := H.le; omega
    simp [IsL, hjl] at hL
  · refine ⟨rf.size, fun t => ?_, rf.defers⟩
    unfold mix
    split
    · simp only [Rep]
    · rename_i hb
      have hft : F1 t = f t := by
        refine hbase t fun o ho hd => hb ?_
        obtain ⟨j, hj⟩ := List.mem_iff_getElem?.1 ho
        obtain ⟨h1, h2, h3⟩ := hgm j o hj
        refine blocked_iff.2 ⟨_, o, h1, h2, hd, ?_⟩
        have := (List.getElem?_eq_some_iff.1 h2).1
        simp [this]
      rw [hft]
      exact Rep.ext (es := some es) (es' := some es) _ x0 (rf.rep t)
end
end
section
open Go.Proofs
set_option maxRecDepth 20000
theorem ty_3 : tyB Tryd.prog 3 false 1 = true := by kernel_rfl
theorem in_3 : intB Tryd.prog 3 .i64 = true := by kernel_rfl
theorem ty_4 : tyB Tryd.prog 4 false 1 = true := by kernel_rfl
theorem by_4 : bytesB Tryd.prog 4 1 = true := by kernel_rfl
theorem ub_4 : Tryd.prog.underlying 4 = some .bool := by kernel_rfl
theorem ze_4 : zeroAVs Tryd.prog 4 = some ([.bool false]) := by kernel_rfl
theorem ty_5 : tyB Tryd.prog 5 false 1 = true := by kernel_rfl
theorem by_5 : bytesB Tryd.prog 5 1 = true := by kernel_rfl
theorem in_5 : intB Tryd.prog 5 .u8 = true := by kernel_rfl
theorem ze_5 : zeroAVs Tryd.prog 5 = some ([.int .u8 0]) := by kernel_rfl
theorem ty_22 : tyB Tryd.prog 22 false 1 = true := by kernel_rfl
theorem sl_22 : sliceB Tryd.prog 22 5 1 = true := by kernel_rfl
theorem ty_24 : tyB Tryd.prog 24 false 1 = true := by kernel_rfl
theorem ty_26 : tyB Tryd.prog 26 true 4 = true := by kernel_rfl
theorem ar_26 : arrB Tryd.prog 26 4 24 1 = true := by kernel_rfl
theorem ai_26 : arrI Tryd.prog 26 4 .u64 = true := by kernel_rfl
theorem ze_26 : zeroAVs Tryd.prog 26 = some ([.int .u64 0, .int .u64 0, .int .u64 0, .int .u64 0]) := by kernel_rfl
theorem ty_27 : tyB Tryd.prog 27 false 1 = true := by kernel_rfl
theorem sl_27 : sliceB Tryd.prog 27 29 6 = true := by kernel_rfl
theorem ty_29 : tyB Tryd.prog 29 true 6 = true := by kernel_rfl
theorem by_29 : bytesB Tryd.prog 29 64 = true := by kernel_rfl
theorem fa_29_0 : fieldB Tryd.prog 29 0 0 = true := by kernel_rfl
theorem fv_29_0 : fieldV Tryd.prog 29 0 0 false 1 = true := by kernel_rfl
theorem fa_29_1 : fieldB Tryd.prog 29 1 1 = true := by kernel_rfl
theorem fa_29_2 : fieldB Tryd.prog 29 2 5 = true := by kernel_rfl
theorem pl_29 : placesOf Tryd.prog 29 = some [(0, 1), (1, 4), (5, 1)] := by kernel_rfl
theorem ze_29 : zeroAVs Tryd.prog 29 = some ([.int .i64 0, .int .u64 0, .int .u64 0, .int .u64 0, .int .u64 0, .nil]) := by kernel_rfl
theorem ty_34 : tyB Tryd.prog 34 false 1 = true := by kernel_rfl
theorem sl_34 : sliceB Tryd.prog 34 75 6 = true := by kernel_rfl
theorem fa_36_0 : fieldB Tryd.prog 36 0 0 = true := by kernel_rfl
theorem fa_36_1 : fieldB Tryd.prog 36 1 1 = true := by kernel_rfl
theorem fa_36_2 : fieldB Tryd.prog 36 2 2 = true := by kernel_rfl
theorem ty_48 : tyB Tryd.prog 48 false 1 = true := by kernel_rfl
theorem sl_48 : sliceB Tryd.prog 48 3 1 = true := by kernel_rfl
theorem ty_60 : tyB Tryd.prog 60 false 1 = true := by kernel_rfl
theorem by_60 : bytesB Tryd.prog 60 24 = true := by kernel_rfl
theorem sl_60 : sliceB Tryd.prog 60 4 1 = true := by kernel_rfl
theorem ze_60 : zeroAVs Tryd.prog 60 = some ([.nil]) := by kernel_rfl
theorem ty_75 : tyB Tryd.prog 75 true 6 = true := by kernel_rfl
theorem fa_75_1 : fieldB Tryd.prog 75 1 4 = true := by kernel_rfl
theorem fa_75_2 : fieldB Tryd.prog 75 2 5 = true := by kernel_rfl
theorem ze_75 : zeroAVs Tryd.prog 75 = some ([.int .u64 0, .int .u64 0, .int .u64 0, .int .u64 0, .int .i64 0, .nil]) := by kernel_rfl
theorem fa_89_0 : fieldB Tryd.prog 89 0 0 = true := by kernel_rfl
theorem fa_89_1 : fieldB Tryd.prog 89 1 1 = true := by kernel_rfl
theorem pl_89 : placesOf Tryd.prog 89 = some [(0, 1), (1, 1)] := by kernel_rfl
theorem ze_89 : zeroAVs Tryd.prog 89 = some ([.nil, .int .i64 0]) := by kernel_rfl
theorem ty_97 : tyB Tryd.prog 97 false 1 = true := by kernel_rfl
theorem ze_97 : zeroAVs Tryd.prog 97 = some ([.raw .nilFunc]) := by kernel_rfl
theorem sl_100 : sliceB Tryd.prog 100 60 1 = true := by kernel_rfl
theorem ty_153 : tyB Tryd.prog 153 true 256 = true := by kernel_rfl
theorem ar_153 : arrB Tryd.prog 153 256 4 1 = true := by kernel_rfl
theorem ze_153 : zeroAVs Tryd.prog 153 = some (List.replicate 256 (.bool false)) := by kernel_rfl
theorem ar_171 : arrB Tryd.prog 171 64 5 1 = true := by kernel_rfl
theorem en_24 : enterB Tryd.prog 24 = true := by kernel_rfl
theorem en_25 : enterB Tryd.prog 25 = true := by kernel_rfl
theorem en_26 : enterB Tryd.prog 26 = true := by kernel_rfl
theorem en_28 : enterB Tryd.prog 28 = true := by kernel_rfl
theorem en_32 : enterB Tryd.prog 32 = true := by kernel_rfl
theorem en_34 : enterB Tryd.prog 34 = true := by kernel_rfl
theorem en_39 : enterB Tryd.prog 39 = true := by kernel_rfl
theorem en_40 : enterB Tryd.prog 40 = true := by kernel_rfl
theorem en_41 : enterB Tryd.prog 41 = true := by kernel_rfl
theorem en_55 : enterB Tryd.prog 55 = true := by kernel_rfl
theorem en_57 : enterB Tryd.prog 57 = true := by kernel_rfl
theorem en_58 : enterB Tryd.prog 58 = true := by kernel_rfl
theorem en_59 : enterB Tryd.prog 59 = true := by kernel_rfl
theorem en_60 : enterB Tryd.prog 60 = true := by kernel_rfl
theorem en_61 : enterB Tryd.prog 61 = true := by kernel_rfl
theorem en_62 : enterB Tryd.prog 62 = true := by kernel_rfl
theorem en_63 : enterB Tryd.prog 63 = true := by kernel_rfl
theorem en_64 : enterB Tryd.prog 64 = true := by kernel_rfl
theorem en_65 : enterB Tryd.prog 65 = true := by kernel_rfl
theorem en_66 : enterB Tryd.prog 66 = true := by kernel_rfl
theorem en_67 : enterB Tryd.prog 67 = true := by kernel_rfl
theorem en_68 : enterB Tryd.prog 68 = true := by kernel_rfl
theorem en_69 : enterB Tryd.prog 69 = true := by kernel_rfl
theorem en_70 : enterB Tryd.prog 70 = true := by kernel_rfl
theorem en_73 : enterB Tryd.prog 73 = true := by kernel_rfl
theorem en_74 : enterB Tryd.prog 74 = true := by kernel_rfl
theorem en_75 : enterB Tryd.prog 75 = true := by kernel_rfl
theorem en_76 : enterB Tryd.prog 76 = true := by kernel_rfl
theorem en_77 : enterB Tryd.prog 77 = true := by kernel_rfl
theorem en_81 : enterB Tryd.prog 81 = true := by kernel_rfl
theorem en_83 : enterB Tryd.prog 83 = true := by kernel_rfl
theorem en_84 : enterB Tryd.prog 84 = true := by kernel_rfl
theorem en_85 : enterB Tryd.prog 85 = true := by kernel_rfl
theorem en_86 : enterB Tryd.prog 86 = true := by kernel_rfl
theorem en_87 : enterB Tryd.prog 87 = true := by kernel_rfl
theorem en_96 : enterB Tryd.prog 96 = true := by kernel_rfl
theorem en_97 : enterB Tryd.prog 97 = true := by kernel_rfl
theorem en_98 : enterB Tryd.prog 98 = true := by kernel_rfl
theorem en_99 : enterB Tryd.prog 99 = true := by kernel_rfl
theorem en_100 : enterB Tryd.prog 100 = true := by kernel_rfl
theorem en_101 : enterB Tryd.prog 101 = true := by kernel_rfl
theorem en_102 : enterB Tryd.prog 102 = true := by kernel_rfl
theorem en_103 : enterB Tryd.prog 103 = true := by kernel_rfl
theorem en_104 : enterB Tryd.prog 104 = true := by kernel_rfl
theorem en_105 : enterB Tryd.prog 105 = true := by kernel_rfl
theorem en_106 : enterB Tryd.prog 106 = true := by kernel_rfl
theorem en_107 : enterB Tryd.prog 107 = true := by kernel_rfl
theorem en_115 : enterB Tryd.prog 115 = true := by kernel_rfl
theorem en_118 : enterB Tryd.prog 118 = true := by kernel_rfl
theorem en_119 : enterB Tryd.prog 119 = true := by kernel_rfl
theorem en_120 : enterB Tryd.prog 120 = true := by kernel_rfl
theorem en_121 : enterB Tryd.prog 121 = true := by kernel_rfl
theorem en_122 : enterB Tryd.prog 122 = true := by kernel_rfl
theorem en_128 : enterB Tryd.prog 128 = true := by kernel_rfl
theorem en_129 : enterB Tryd.prog 129 = true := by kernel_rfl
theorem en_130 : enterB Tryd.prog 130 = true := by kernel_rfl
theorem en_131 : enterB Tryd.prog 131 = true := by kernel_rfl
theorem en_132 : enterB Tryd.prog 132 = true := by kernel_rfl
theorem en_133 : enterB Tryd.prog 133 = true := by kernel_rfl
theorem en_134 : enterB Tryd.prog 134 = true := by kernel_rfl
theorem en_135 : enterB Tryd.prog 135 = true := by kernel_rfl
theorem en_136 : enterB Tryd.prog 136 = true := by kernel_rfl
theorem en_137 : enterB Tryd.prog 137 = true := by kernel_rfl
theorem en_138 : enterB Tryd.prog 138 = true := by kernel_rfl
theorem en_139 : enterB Tryd.prog 139 = true := by kernel_rfl
theorem en_140 : enterB Tryd.prog 140 = true := by kernel_rfl
theorem en_141 : enterB Tryd.prog 141 = true := by kernel_rfl
theorem en_142 : enterB Tryd.prog 142 = true := by kernel_rfl
theorem en_143 : enterB Tryd.prog 143 = true := by kernel_rfl
theorem en_144 : enterB Tryd.prog 144 = true := by kernel_rfl
theorem en_148 : enterB Tryd.prog 148 = true := by kernel_rfl
theorem en_153 : enterB Tryd.prog 153 = true := by kernel_rfl
theorem en_154 : enterB Tryd.prog 154 = true := by kernel_rfl
theorem en_155 : enterB Tryd.prog 155 = true := by kernel_rfl
theorem en_156 : enterB Tryd.prog 156 = true := by kernel_rfl
theorem en_157 : enterB Tryd.prog 157 = true := by kernel_rfl
theorem en_158 : enterB Tryd.prog 158 = true := by kernel_rfl
theorem en_170 : enterB Tryd.prog 170 = true := by kernel_rfl
theorem en_171 : enterB Tryd.prog 171 = true := by kernel_rfl
theorem mixed : Tryd.prog.follows .mixedOrders = true := by kernel_rfl
end
section
open Go.RowKit
/-- The frame in which nothing is known. -/
def bot : Frame := fun _ => .any
theorem entry0 : entry [] = bot := by funext t; simp [entry, bot]
theorem entry1 (a : AV) : entry [a] = upd bot 0 a := by
 funext t; rcases t with _ | t <;> simp [entry, bot, upd]
theorem entry2 (a b : AV) : entry [a, b] = upd (upd bot 0 a) 1 b := by
 funext t; rcases t with _ | _ | t <;> simp [entry, bot, upd]
theorem entry3 (a b c : AV) : entry [a, b, c] = upd (upd (upd bot 0 a) 1 b) 2 c := by
 funext t; rcases t with _ | _ | _ | t <;> simp [entry, bot, upd]
theorem upd_apply (f : Frame) (t u : Nat) (a : AV) : upd f t a u = if u = t then a else f u := rfl
theorem ev_tmp (f : Frame) (t : Nat) : ev f (.tmp t) = f t := rfl
theorem ev_const (f : Frame) (v : Value) : ev f (.const v) = ofConst v := rfl
theorem ev_func (f : Frame) (g : Nat) : ev f (.func g) = .fn (.func g) [] [] := rfl
theorem ofConst_int (k : IntKind) (n : Int) : ofConst (.int k n) = .int k n := rfl
theorem ofConst_bool (b : Bool) : ofConst (.bool b) = .bool b := rfl
theorem ofConst_str (b : ByteArray) : ofConst (.string b) = .str b := rfl
theorem ofConst_nil : ofConst (.slice none 0 0) = .nil := rfl
theorem upd_self (f : Frame) (t : Nat) (a : AV) (h : f t = a) : upd f t a = f := by
 funext u
 simp only [upd]
 split
 ·rename_i e; rw [e, h]
 ·rfl
theorem upd_upd (f : Frame) (t : Nat) (a b : AV) : upd (upd f t a) t b = upd f t b := by
 funext u; simp only [upd]; split <;> rfl
section
variable {P : Program} {w0 : World} {N : Nat} {es : List Ent}
theorem calls0 {fid : FuncId} {fn : Func} {cd : Code} {R : AV → List Ent → Prop} (hf : P.funcs[fid]? = some fn) (hb : fn.body = some cd) (hN : fn.ntmps = N)
  (h : AWp P w0 N cd bot es (kret P w0 N fn R)) : ACalls P w0 fid [] es R := calls_intro hf hb hN (Nat.zero_le _) (entry0 ▸ h)
theorem calls1 {fid : FuncId} {fn : Func} {cd : Code} {a : AV} {R : AV → List Ent → Prop} (hf : P.funcs[fid]? = some fn) (hb : fn.body = some cd) (hN : fn.ntmps = N) (hl : 1 ≤ N)
  (h : AWp P w0 N cd (upd bot 0 a) es (kret P w0 N fn R)) : ACalls P w0 fid [a] es R := calls_intro hf hb hN hl (entry1 a ▸ h)
theorem calls2 {fid : FuncId} {fn : Func} {cd : Code} {a b : AV} {R : AV → List Ent → Prop} (hf : P.funcs[fid]? = some fn) (hb : fn.body = some cd) (hN : fn.ntmps = N) (hl : 2 ≤ N)
  (h : AWp P w0 N cd (upd (upd bot 0 a) 1 b) es (kret P w0 N fn R)) : ACalls P w0 fid [a, b] es R := calls_intro hf hb hN hl (entry2 a b ▸ h)
theorem calls3 {fid : FuncId} {fn : Func} {cd : Code} {a b c : AV} {R : AV → List Ent → Prop} (hf : P.funcs[fid]? = some fn) (hb : fn.body = some cd) (hN : fn.ntmps = N) (hl : 3 ≤ N)
  (h : AWp P w0 N cd (upd (upd (upd bot 0 a) 1 b) 2 c) es (kret P w0 N fn R)) : ACalls P w0 fid [a, b, c] es R := calls_intro hf hb hN hl (entry3 a b c ▸ h)
theorem ret1 {fn : Func} {t : Nat} {f : Frame} {a : AV} {R : AV → List Ent → Prop} {es2 : List Ent} (hr : fn.results = #[.tmp t]) (ha : f t = a) (hs : Sub es2 es) (h : R a es2) : kret P w0 N fn R .ret f es :=
 ⟨a, es2, ha ▸ res_tmp hr, hs, h⟩
end
theorem sub1 (a : Ent) (es : List Ent) : Sub es (a :: es) := Sub.tail a es
theorem sub2 (a b : Ent) (es : List Ent) : Sub es (a :: b :: es) := (Sub.tail b es).trans (Sub.tail a _)
theorem sub3 (a b c : Ent) (es : List Ent) : Sub es (a :: b :: c :: es) := (sub2 b c es).trans (Sub.tail a _)
theorem sub4 (a b c d : Ent) (es : List Ent) : Sub es (a :: b :: c :: d :: es) := (sub3 b c d es).trans (Sub.tail a _)
end
end Go.Proofs.YtfdgbghlanbddaaDoor.Av
