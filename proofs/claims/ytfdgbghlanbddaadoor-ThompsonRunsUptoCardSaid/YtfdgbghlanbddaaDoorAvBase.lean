import Derived.Calls
import Derived.Below
import Derived.Laws.Sem
import Derived.Maps.AppendAt
namespace Go.Proofs.YtfdgbghlanbddaaDoor.Av
open Go.RowKit

/-- What is known of a value: memory is not in sight. `list`: a slice whose elements are never written again; `own`: a slice over a row that the call may write; `ptr`, `fptr`: places in such rows. -/
inductive AV where
  | any
  | bool (b : Bool)
  | int (k : IntKind) (n : Int)
  | str (s : ByteArray)
  | raw (v : Value)
  | nil
  | agg (l : List AV)
  | tup (l : List AV)
  | list (sz : Nat) (rows : List (List AV))
  | own (id s : Nat)
  | ptr (id s i off : Nat)
  | fptr (sz : Nat) (rows : List (List AV)) (i off : Nat)
  | fn (f : Fn) (first captured : List AV)

/-- A row that the call may write: its stamp, the elements' type, how many cells each has, the elements. -/
inductive Ent where
  | dead
  | row (s e sz : Nat) (rows : List (List AV))

/-- The rows are kept as a stack: a row's number is its place from the bottom on. -/
def at_ : List Ent → Nat → Option Ent
  | [], _ => none
  | x :: t, i => if i = t.length then some x else at_ t i
theorem at_hit (x : Ent) (t : List Ent) : at_ (x :: t) t.length = some x := by simp [at_]
theorem at_lt : ∀ {es : List Ent} {i : Nat} {x : Ent}, at_ es i = some x → i < es.length
  | y :: t, i, x, h => by
    simp only [at_] at h
    split at h
    · simp_all
    · have := at_lt h; simp; omega
theorem at_miss {t : List Ent} {i : Nat} {x : Ent} (y : Ent) (h : at_ t i = some x) : at_ (y :: t) i = some x := by
  have := at_lt h
  simp only [at_]
  rw [if_neg (by omega)]
  exact h
/-- The stack with entry i replaced. -/
def setAt : List Ent → Nat → Ent → List Ent
  | [], _, _ => []
  | x :: t, i, y => if i = t.length then y :: t else x :: setAt t i y
theorem setAt_hit (x y : Ent) (t : List Ent) : setAt (x :: t) t.length y = y :: t := by simp [setAt]
theorem setAt_miss {t : List Ent} {i : Nat} (x y : Ent) (h : i < t.length) : setAt (x :: t) i y = x :: setAt t i y := by
  simp only [setAt]
  rw [if_neg (by omega)]
theorem setAt_len : ∀ (es : List Ent) (i : Nat) (y : Ent), (setAt es i y).length = es.length
  | [], _, _ => rfl
  | x :: t, i, y => by
    simp only [setAt]
    split
    · rfl
    · simp [setAt_len t i y]
theorem at_setAt : ∀ (es : List Ent) (i j : Nat) (y : Ent), at_ (setAt es i y) j = if j = i ∧ i < es.length then some y else at_ es j
  | [], i, j, y => by simp [setAt, at_]
  | x :: t, i, j, y => by
    simp only [setAt]
    split
    · rename_i h
      subst h
      simp only [at_, List.length_cons]
      by_cases hj : j = t.length
      · simp [hj]
      · rw [if_neg hj, if_neg (by omega), if_neg hj]
    · rename_i h
      simp only [at_, setAt_len, List.length_cons, at_setAt t i j y]
      by_cases hj : j = t.length
      · rw [if_pos hj, if_neg (by omega), if_pos hj]
      · rw [if_neg hj]
        by_cases hi : j = i ∧ i < t.length
        · rw [if_pos hi, if_pos (by omega)]
        · rw [if_neg hi, if_neg (by omega), if_neg hj]
theorem at_setAt_same {es : List Ent} {i : Nat} {x : Ent} (y : Ent) (h : at_ es i = some x) : at_ (setAt es i y) i = some y := by
  rw [at_setAt, if_pos ⟨rfl, at_lt h⟩]
theorem at_setAt_ne {es : List Ent} {i j : Nat} (y : Ent) (h : j ≠ i) : at_ (setAt es i y) j = at_ es j := by
  rw [at_setAt, if_neg (fun e => h e.1)]

/-- The world, where the rows lie, the next stamp, which blocks are never written again. -/
structure Core where
  w : World
  phi : Nat → Option (Nat × Nat)
  now : Nat
  fro : Nat → Prop

def ownVal : Option (Nat × Nat) → Nat → Value
  | none, _ => .slice none 0 0
  | some (g, cap), n => .slice (some ⟨g, 0, none⟩) n cap

def most : Nat := 140737488355328

mutual
def Rep (c : Core) : Option (List Ent) → AV → Value → Prop
  | _, .any, _ => True
  | _, .bool b, v => v = .bool b
  | _, .int k n, v => v = .int k n
  | _, .str s, v => v = .string s
  | _, .raw u, v => v = u
  | _, .nil, v => v = .slice none 0 0
  | es, .agg l, v => ∃ cs, v = .agg cs ∧ Reps c es l cs.toList ∧ ∀ x ∈ cs.toList, x.oneCell' = true
  | es, .tup l, v => ∃ cs, v = .tuple cs ∧ Reps c es l cs.toList
  | _, .list sz rows, v => ∃ A cap vs, v = .slice A rows.length cap ∧ rows.length ≤ cap ∧ rows.length ≤ most ∧ RepRows c none sz rows vs ∧
      (vs ≠ [] → ∃ b o, A = some ⟨b, o, none⟩ ∧ c.fro b ∧ ∀ j, j < vs.length → c.w.cell? ⟨b, o + j, none⟩ = vs[j]?)
  | m, .own id s, v => ∃ es, m = some es ∧ (∃ A n k, v = .slice A n k) ∧ s < c.now ∧ ∀ e sz rows, at_ es id = some (.row s e sz rows) → v = ownVal (c.phi id) rows.length
  | m, .ptr id s i off, v => ∃ es, m = some es ∧ (∃ p, v = .pointer (some p)) ∧ s < c.now ∧ ∀ e sz rows, at_ es id = some (.row s e sz rows) → ∃ g cap, c.phi id = some (g, cap) ∧ v = .pointer (some ⟨g, i * sz + off, none⟩)
  | _, .fptr sz rows i off, v => ∃ b o vs, v = .pointer (some ⟨b, o + (i * sz + off), none⟩) ∧ RepRows c none sz rows vs ∧ c.fro b ∧ ∀ j, j < vs.length → c.w.cell? ⟨b, o + j, none⟩ = vs[j]?
  | es, .fn f l1 l2, v => ∃ fs cs, v = .func f fs cs ∧ Reps c es l1 fs.toList ∧ Reps c es l2 cs.toList
def Reps (c : Core) : Option (List Ent) → List AV → List Value → Prop
  | _, [], vs => vs = []
  | es, a :: as, vs => ∃ v vs', vs = v :: vs' ∧ Rep c es a v ∧ Reps c es as vs'
def RepRows (c : Core) : Option (List Ent) → Nat → List (List AV) → List Value → Prop
  | _, _, [], vs => vs = []
  | es, sz, r :: rs, vs => ∃ v1 v2, vs = v1 ++ v2 ∧ r.length = sz ∧ Reps c es r v1 ∧ (∀ x ∈ v1, x.oneCell' = true) ∧ RepRows c es sz rs v2
end

structure Ext (c : Core) (es : List Ent) (c' : Core) (es' : List Ent) : Prop where
  now : c.now ≤ c'.now
  fro : ∀ b, c.fro b → c'.fro b ∧ c'.w.heap[b]? = c.w.heap[b]?
  ents : ∀ id s e sz rows', at_ es' id = some (.row s e sz rows') → s < c.now → ∃ rows, at_ es id = some (.row s e sz rows) ∧ rows.length = rows'.length ∧ c'.phi id = c.phi id

theorem Ext.refl (c : Core) (es : List Ent) : Ext c es c es :=
  ⟨Nat.le_refl _, fun _ h => ⟨h, rfl⟩, fun _ _ _ _ rows h _ => ⟨rows, h, rfl, rfl⟩⟩
theorem Ext.trans {c1 c2 c3 : Core} {e1 e2 e3 : List Ent} (h : Ext c1 e1 c2 e2) (k : Ext c2 e2 c3 e3) : Ext c1 e1 c3 e3 := by
  refine ⟨Nat.le_trans h.now k.now, fun b hb => ?_, fun id s e sz rows' h3 hs => ?_⟩
  · obtain ⟨h1, h2⟩ := h.fro b hb
    obtain ⟨k1, k2⟩ := k.fro b h1
    exact ⟨k1, k2.trans h2⟩
  · obtain ⟨r2, h2, l2, p2⟩ := k.ents id s e sz rows' h3 (Nat.lt_of_lt_of_le hs h.now)
    obtain ⟨r1, h1, l1, p1⟩ := h.ents id s e sz r2 h2 hs
    exact ⟨r1, h1, l1.trans l2, p2.trans p1⟩
/-- The same, of what is told by rows (some) or of what is told by lists alone (none). -/
def ExtM (c : Core) : Option (List Ent) → Core → Option (List Ent) → Prop
  | some es, c', some es' => Ext c es c' es'
  | none, c', _ => c.now ≤ c'.now ∧ ∀ b, c.fro b → c'.fro b ∧ c'.w.heap[b]? = c.w.heap[b]?
  | some _, _, none => False
theorem ExtM.nil {c c' : Core} : ∀ {m m' : Option (List Ent)}, ExtM c m c' m' → ExtM c none c' none
  | some _, some _, h => ⟨h.now, h.fro⟩
  | none, _, h => h
theorem ExtM.fro {c c' : Core} {m m' : Option (List Ent)} (h : ExtM c m c' m') : ∀ b, c.fro b → c'.fro b ∧ c'.w.heap[b]? = c.w.heap[b]? := h.nil.2
theorem ExtM.cell {c c' : Core} {es es' : Option (List Ent)} (h : ExtM c es c' es') {b o : Nat} (hb : c.fro b) : c'.w.cell? ⟨b, o, none⟩ = c.w.cell? ⟨b, o, none⟩ := by
  unfold World.cell?
  simp only [(h.fro b hb).2]

mutual
theorem Rep.ext {c c' : Core} : ∀ (a : AV) {es es' : Option (List Ent)} {v : Value}, ExtM c es c' es' → Rep c es a v → Rep c' es' a v
  | .any, _, _, _, _, _ => trivial
  | .bool _, _, _, _, _, h => h
  | .int _ _, _, _, _, _, h => h
  | .str _, _, _, _, _, h => h
  | .raw _, _, _, _, _, h => h
  | .nil, _, _, _, _, h => h
  | .agg l, _, _, _, x, h => by
    simp only [Rep] at h ⊢
    obtain ⟨cs, rfl, h1, h2⟩ := h
    exact ⟨cs, rfl, Reps.ext l x h1, h2⟩
  | .tup l, _, _, _, x, h => by
    simp only [Rep] at h ⊢
    obtain ⟨cs, rfl, h1⟩ := h
    exact ⟨cs, rfl, Reps.ext l x h1⟩
  | .list sz rows, _, _, _, x, h => by
    simp only [Rep] at h ⊢
    obtain ⟨A, cap, vs, rfl, h1, hm, h2, h3⟩ := h
    refine ⟨A, cap, vs, rfl, h1, hm, RepRows.ext rows x.nil h2, fun hv => ?_⟩
    obtain ⟨b, o, rfl, hb, hc⟩ := h3 hv
    exact ⟨b, o, rfl, (x.fro b hb).1, fun j hj => (x.cell hb).trans (hc j hj)⟩
  | .own id s, m, m', _, x, h => by
    simp only [Rep] at h ⊢
    obtain ⟨es, rfl, hsh, h⟩ := h
    match m', x with
    | some es', x =>
      refine ⟨es', rfl, hsh, Nat.lt_of_lt_of_le h.1 x.now, fun e sz rows he => ?_⟩
      obtain ⟨r1, h1, l1, p1⟩ := x.ents _ _ _ _ _ he h.1
      rw [h.2 _ _ _ h1, p1, l1]
  | .ptr id s i off, m, m', _, x, h => by
    simp only [Rep] at h ⊢
    obtain ⟨es, rfl, hsh, h⟩ := h
    match m', x with
    | some es', x =>
      refine ⟨es', rfl, hsh, Nat.lt_of_lt_of_le h.1 x.now, fun e sz rows he => ?_⟩
      obtain ⟨r1, h1, l1, p1⟩ := x.ents _ _ _ _ _ he h.1
      rw [p1]
      exact h.2 _ _ _ h1
  | .fptr sz rows i off, _, _, _, x, h => by
    simp only [Rep] at h ⊢
    obtain ⟨b, o, vs, rfl, h2, hb, hc⟩ := h
    exact ⟨b, o, vs, rfl, RepRows.ext rows x.nil h2, (x.fro b hb).1, fun j hj => (x.cell hb).trans (hc j hj)⟩
  | .fn f l1 l2, _, _, _, x, h => by
    simp only [Rep] at h ⊢
    obtain ⟨fs, cs, rfl, h1, h2⟩ := h
    exact ⟨fs, cs, rfl, Reps.ext l1 x h1, Reps.ext l2 x h2⟩
theorem Reps.ext {c c' : Core} : ∀ (l : List AV) {es es' : Option (List Ent)} {vs : List Value}, ExtM c es c' es' → Reps c es l vs → Reps c' es' l vs
  | [], _, _, _, _, h => h
  | a :: as, _, _, _, x, h => by
    simp only [Reps] at h ⊢
    obtain ⟨v, vs', rfl, h1, h2⟩ := h
    exact ⟨v, vs', rfl, Rep.ext a x h1, Reps.ext as x h2⟩
theorem RepRows.ext {c c' : Core} : ∀ (l : List (List AV)) {es es' : Option (List Ent)} {sz : Nat} {vs : List Value}, ExtM c es c' es' → RepRows c es sz l vs → RepRows c' es' sz l vs
  | [], _, _, _, _, _, h => h
  | r :: rs, _, _, _, _, x, h => by
    simp only [RepRows] at h ⊢
    obtain ⟨v1, v2, rfl, hl, h1, ho, h2⟩ := h
    exact ⟨v1, v2, rfl, hl, Reps.ext r x h1, ho, RepRows.ext rs x h2⟩
end

/-- What is told by lists alone is told whatever the rows. -/
theorem Rep.up {c : Core} {a : AV} {v : Value} (h : Rep c none a v) (m : Option (List Ent)) : Rep c m a v :=
  Rep.ext a (es := none) (show ExtM c none c m from ⟨Nat.le_refl _, fun _ hb => ⟨hb, rfl⟩⟩) h
theorem Reps.up {c : Core} {l : List AV} {v : List Value} (h : Reps c none l v) (m : Option (List Ent)) : Reps c m l v :=
  Reps.ext l (show ExtM c none c m from ⟨Nat.le_refl _, fun _ hb => ⟨hb, rfl⟩⟩) h
mutual
/-- No row of one's own is in it. -/
def clean : AV → Bool
  | .own _ _ => false
  | .ptr _ _ _ _ => false
  | .agg l => cleans l
  | .tup l => cleans l
  | .fn _ l1 l2 => cleans l1 && cleans l2
  | _ => true
def cleans : List AV → Bool
  | [] => true
  | a :: as => clean a && cleans as
end
mutual
theorem Rep.down {c : Core} {es : Option (List Ent)} : ∀ (a : AV) {v : Value}, clean a = true → Rep c es a v → Rep c none a v
  | .any, _, _, _ => by simp only [Rep]
  | .bool _, _, _, h => by simp only [Rep] at h ⊢; exact h
  | .int _ _, _, _, h => by simp only [Rep] at h ⊢; exact h
  | .str _, _, _, h => by simp only [Rep] at h ⊢; exact h
  | .raw _, _, _, h => by simp only [Rep] at h ⊢; exact h
  | .nil, _, _, h => by simp only [Rep] at h ⊢; exact h
  | .agg l, _, p, h => by
    simp only [Rep] at h ⊢
    obtain ⟨cs, rfl, h1, h2⟩ := h
    exact ⟨cs, rfl, Reps.down l (by simpa [clean] using p) h1, h2⟩
  | .tup l, _, p, h => by
    simp only [Rep] at h ⊢
    obtain ⟨cs, rfl, h1⟩ := h
    exact ⟨cs, rfl, Reps.down l (by simpa [clean] using p) h1⟩
  | .list _ _, _, _, h => by simp only [Rep] at h ⊢; exact h
  | .own _ _, _, p, _ => by simp [clean] at p
  | .ptr _ _ _ _, _, p, _ => by simp [clean] at p
  | .fptr _ _ _ _, _, _, h => by simp only [Rep] at h ⊢; exact h
  | .fn f l1 l2, _, p, h => by
    simp only [Rep] at h ⊢
    obtain ⟨fs, cs, rfl, h1, h2⟩ := h
    simp only [clean, Bool.and_eq_true] at p
    exact ⟨fs, cs, rfl, Reps.down l1 p.1 h1, Reps.down l2 p.2 h2⟩
theorem Reps.down {c : Core} {es : Option (List Ent)} : ∀ (l : List AV) {vs : List Value}, cleans l = true → Reps c es l vs → Reps c none l vs
  | [], _, _, h => by simp only [Reps] at h ⊢; exact h
  | a :: as, _, p, h => by
    simp only [Reps] at h ⊢
    simp only [cleans, Bool.and_eq_true] at p
    obtain ⟨v, vs', rfl, h1, h2⟩ := h
    exact ⟨v, vs', rfl, Rep.down a p.1 h1, Reps.down as p.2 h2⟩
end
theorem RepRows.down {c : Core} {es : Option (List Ent)} : ∀ (l : List (List AV)) {sz : Nat} {vs : List Value}, l.all cleans = true → RepRows c es sz l vs → RepRows c none sz l vs
  | [], _, _, _, h => by simp only [RepRows] at h ⊢; exact h
  | r :: rs, _, _, p, h => by
    simp only [RepRows] at h ⊢
    simp only [List.all_cons, Bool.and_eq_true] at p
    obtain ⟨v1, v2, rfl, hl, h1, ho, h2⟩ := h
    exact ⟨v1, v2, rfl, hl, Reps.down r p.1 h1, ho, RepRows.down rs p.2 h2⟩

/-- A row's entry holds of the world. -/
def EntOk (c : Core) (es : List Ent) (id : Nat) : Ent → Prop
  | .dead => True
  | .row s e sz rows => s < c.now ∧ rows.length ≤ most ∧ (∀ g cap, c.phi id = some (g, cap) → ¬ c.fro g) ∧
      ∃ xs, RepRows c (some es) sz rows xs ∧ c.w.ownsRow 0 e sz (ownVal (c.phi id) rows.length) rows.length xs

/-- All that is known of the world, w0 being the world at the beginning. -/
structure Ok (w0 : World) (c : Core) (es : List Ent) : Prop where
  below : Below w0.heap.size w0 c.w
  old : ∀ b, b < w0.heap.size → c.fro b
  lt : ∀ b, c.fro b → b < c.w.heap.size
  ent : ∀ id x, at_ es id = some x → EntOk c es id x
  inj : ∀ i j s e sz rows s' e' sz' rows' g cap cap', at_ es i = some (.row s e sz rows) → at_ es j = some (.row s' e' sz' rows') → c.phi i = some (g, cap) → c.phi j = some (g, cap') → i = j

/-- What a frame's slots are known to hold. -/
def Frame := Nat → AV
def upd (f : Frame) (t : Nat) (a : AV) : Frame := fun u => if u = t then a else f u
theorem upd_same (f : Frame) (t : Nat) (a : AV) : upd f t a t = a := by simp [upd]
theorem upd_ne (f : Frame) {t u : Nat} (a : AV) (h : u ≠ t) : upd f t a u = f u := by simp [upd, h]
def put (f : Frame) (d : Option Nat) (a : AV) : Frame := match d with | some t => upd f t a | none => f

/-- What the frame's N slots hold. -/
structure RepF (N : Nat) (c : Core) (es : List Ent) (f : Frame) (A : Act) : Prop where
  size : A.tmps.size = N
  rep : ∀ t, Rep c (some es) (f t) (A.tmps.getD t undef)
  defers : A.defers = []
theorem RepF.ext {N : Nat} {c c' : Core} {es es' : List Ent} {f : Frame} {A : Act} (x : Ext c es c' es') (h : RepF N c es f A) : RepF N c' es' f A :=
  ⟨h.size, fun t => Rep.ext (es := some es) (es' := some es') _ x (h.rep t), h.defers⟩
/-- A slot that may be written. -/
def dok (N : Nat) : Option Nat → Bool
  | some d => Nat.blt d N
  | none => true
theorem RepF.put {N : Nat} {c : Core} {es : List Ent} {f : Frame} {A : Act} (h : RepF N c es f A) {d : Option Nat} (hd : dok N d = true) {a : AV} {v : Value} (hv : Rep c (some es) a v) : RepF N c es (put f d a) (A.put d v) := by
  cases d with
  | none => exact h
  | some t =>
    refine ⟨by simp [Act.put, h.size], fun u => ?_, h.defers⟩
    have ht : t < N := by simpa [dok] using hd
    simp only [Act.put, Av.put, upd]
    by_cases e : u = t
    · subst e
      rw [if_pos rfl]
      simp [h.size, ht]
      exact hv
    · rw [if_neg e]
      have := h.rep u
      simpa [Array.getElem?_setIfInBounds_ne (Ne.symm e)] using this

def ofConst : Value → AV
  | .bool b => .bool b
  | .int k n => .int k n
  | .string s => .str s
  | .slice none 0 0 => .nil
  | v => .raw v
theorem rep_const (c : Core) (es : Option (List Ent)) (v : Value) : Rep c es (ofConst v) v := by
  unfold ofConst
  split <;> simp only [Rep]
def ev (f : Frame) : Operand → AV
  | .tmp t => f t
  | .const v => ofConst v
  | .global g => .raw (.pointer (some ⟨g, 0, none⟩))
  | .func f => .fn (.func f) [] []
theorem rep_ev {N : Nat} {c : Core} {es : List Ent} {f : Frame} {A : Act} (h : RepF N c es f A) : ∀ x, Rep c (some es) (ev f x) (A.eval x)
  | .tmp t => h.rep t
  | .const v => rep_const c _ v
  | .global g => by simp only [ev, Act.eval, Rep]
  | .func g => by simp only [ev, Act.eval, Rep, Reps]; exact ⟨#[], #[], rfl, rfl, rfl⟩
end Go.Proofs.YtfdgbghlanbddaaDoor.Av
