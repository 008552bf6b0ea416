import Derived.Test.YtfdgbghlanbddaaDoorAvWorld
import Derived.Tactics
set_option linter.unusedVariables false
set_option linter.unusedSimpArgs false
namespace Go.Proofs.YtfdgbghlanbddaaDoor.Av
open Go.RowKit

/-- One operation: what holds behind it. -/
def AOp (P : Program) (w0 : World) (N : Nat) (o : Oper) (f : Frame) (es : List Ent) (K : Frame → List Ent → Prop) : Prop :=
  ∀ (c : Core) (A : Act) (next : Act → World → Prop) (Q : Exit → Act → World → Prop), Ok w0 c es → RepF N c es f A →
    (∀ c' es' f' A', Ext c es c' es' → Ok w0 c' es' → RepF N c' es' f' A' → K f' es' → next A' c'.w) → o.wp P A c.w next Q
/-- The operations that are left of a region. -/
def AList (P : Program) (w0 : World) (N : Nat) (ops : Array Oper) (l : List Oper) (f : Frame) (es : List Ent) (K : Frame → List Ent → Prop) : Prop :=
  ∀ (c : Core) (A : Act) (Q : Exit → Act → World → Prop), Ok w0 c es → RepF N c es f A →
    (∀ c' es' f' A', Ext c es c' es' → Ok w0 c' es' → RepF N c' es' f' A' → K f' es' → Q .normal A' c'.w) → wpList P ops Q l A c.w
/-- Code: what holds where it is left. -/
def AWp (P : Program) (w0 : World) (N : Nat) (code : Code) (f : Frame) (es : List Ent) (K : Exit → Frame → List Ent → Prop) : Prop :=
  ∀ (c : Core) (A : Act) (Q : Exit → Act → World → Prop), Ok w0 c es → RepF N c es f A →
    (∀ e c' es' f' A', Ext c es c' es' → Ok w0 c' es' → RepF N c' es' f' A' → K e f' es' → Q e A' c'.w) → code.wp P Q A c.w
/-- A call of a Go function: what it answers. -/
def ACalls (P : Program) (w0 : World) (fid : FuncId) (args : List AV) (es : List Ent) (R : AV → List Ent → Prop) : Prop :=
  ∀ (c : Core) (vs : Array Value), Ok w0 c es → Reps c (some es) args vs.toList →
    Calls P fid vs c.w fun e w' => ∃ v c' es' r, e = .returned v ∧ c'.w = w' ∧ Ext c es c' es' ∧ Ok w0 c' es' ∧ Rep c' (some es') r v ∧ R r es'

section
variable {P : Program} {w0 : World} {N : Nat} {ops : Array Oper} {o : Oper} {rest : List Oper} {f : Frame} {es : List Ent}

theorem AOp.mono {K K' : Frame → List Ent → Prop} (h : AOp P w0 N o f es K) (hk : ∀ f es, K f es → K' f es) : AOp P w0 N o f es K' :=
  fun c A next Q ok rf hn => h c A next Q ok rf fun c' es' f' A' x o' r' k => hn c' es' f' A' x o' r' (hk _ _ k)
theorem AWp.mono {code : Code} {K K' : Exit → Frame → List Ent → Prop} (h : AWp P w0 N code f es K) (hk : ∀ e f es, K e f es → K' e f es) : AWp P w0 N code f es K' :=
  fun c A Q ok rf hn => h c A Q ok rf fun e c' es' f' A' x o' r' k => hn e c' es' f' A' x o' r' (hk _ _ _ k)
theorem ACalls.mono {fid : FuncId} {args : List AV} {R R' : AV → List Ent → Prop} (h : ACalls P w0 fid args es R) (hr : ∀ r es, R r es → R' r es) : ACalls P w0 fid args es R' :=
  fun c vs ok rs => (h c vs ok rs).mono fun e w' ⟨v, c', es', r, h1, h2, h3, h4, h5, h6⟩ => ⟨v, c', es', r, h1, h2, h3, h4, h5, hr _ _ h6⟩

/-! ### lists of operations -/
theorem l_nil {K : Frame → List Ent → Prop} (h : K f es) : AList P w0 N ops [] f es K :=
  fun c A Q ok rf hk => wpList_nil (hk c es f A (Ext.refl c es) ok rf h)
theorem l_cons {K : Frame → List Ent → Prop} (hg : o.guard = none) (h : AOp P w0 N o f es fun f' es' => AList P w0 N ops rest f' es' K) : AList P w0 N ops (o :: rest) f es K := by
  intro c A Q ok rf hk
  refine wpList_plain hg fun K' hK' => h c A K' Q ok rf fun c' es' f' A' x ok' rf' hl => hK' _ _ (hl c' A' Q ok' rf' ?_)
  exact fun c2 es2 f2 A2 x2 ok2 rf2 k2 => hk c2 es2 f2 A2 (x.trans x2) ok2 rf2 k2
theorem yielded_of {c : Core} {A : Act} (rf : RepF N c es f A) {j d : Nat} {b : Bool} (hd : (ops[j]?).bind (·.dst) = some d) (hN : Nat.blt d N = true) (hb : f d = .bool b) : yielded ops A.tmps j = some b := by
  have h := rf.rep d
  rw [hb] at h
  simp only [Rep] at h
  have hlt : d < A.tmps.size := by rw [rf.size]; simpa using hN
  have : A.tmps[d]? = some (.bool b) := by
    rw [Array.getElem?_eq_getElem hlt]
    rw [Array.getD_eq_getD_getElem?, Array.getElem?_eq_getElem hlt] at h
    simpa using h
  simp [yielded, hd, this]
theorem yielded_undef {c : Core} {A : Act} (rf : RepF N c es f A) {j d : Nat} (hd : (ops[j]?).bind (·.dst) = some d) (hb : f d = .raw undef) : yielded ops A.tmps j = none := by
  have h := rf.rep d
  rw [hb] at h
  simp only [Rep] at h
  unfold yielded
  rw [hd]
  simp only [Option.bind_some]
  split
  · rename_i b hq
    rw [Array.getD_eq_getD_getElem?, hq] at h
    simp [undef] at h
  · rfl
theorem l_guard_undef {K : Frame → List Ent → Prop} {j d : Nat} {want : Bool} (hg : o.guard = some (j, want)) (hd : (ops[j]?).bind (·.dst) = some d) (hb : f d = .raw undef) (hdst : dok N o.dst = true)
    (h2 : AList P w0 N ops rest (put f o.dst (.raw undef)) es K) : AList P w0 N ops (o :: rest) f es K := by
  intro c A Q ok rf hk
  have hy := yielded_undef (ops := ops) rf hd hb
  refine wpList_step fun K' hK' => ?_
  rw [if_neg (by simp [Region.wanted, hg, hy])]
  exact hK' _ _ (h2 c _ Q ok (rf.put hdst (by simp only [Rep])) hk)
theorem l_guard {K : Frame → List Ent → Prop} {j d : Nat} {want b : Bool} (hg : o.guard = some (j, want)) (hd : (ops[j]?).bind (·.dst) = some d) (hN : Nat.blt d N = true) (hb : f d = .bool b) (hdst : dok N o.dst = true)
    (h1 : b = want → AOp P w0 N o f es fun f' es' => AList P w0 N ops rest f' es' K) (h2 : b = !want → AList P w0 N ops rest (put f o.dst (.raw undef)) es K) : AList P w0 N ops (o :: rest) f es K := by
  intro c A Q ok rf hk
  have hy := yielded_of (ops := ops) rf hd hN hb
  refine wpList_step fun K' hK' => ?_
  by_cases hbw : b = want
  · rw [if_pos (by simp [Region.wanted, hg, hy, hbw])]
    exact h1 hbw c A K' Q ok rf fun c' es' f' A' x ok' rf' hl => hK' _ _ (hl c' A' Q ok' rf' fun c2 es2 f2 A2 x2 ok2 rf2 k2 => hk c2 es2 f2 A2 (x.trans x2) ok2 rf2 k2)
  · rw [if_neg (by simp [Region.wanted, hg, hy, hbw])]
    exact hK' _ _ (h2 (by cases b <;> cases want <;> simp_all) c _ Q ok (rf.put hdst (by simp only [Rep])) hk)
theorem l_guard_yes {K : Frame → List Ent → Prop} {j d : Nat} {want : Bool} (hg : o.guard = some (j, want)) (hd : (ops[j]?).bind (·.dst) = some d) (hN : Nat.blt d N = true) (hb : f d = .bool want) (hdst : dok N o.dst = true)
    (h1 : AOp P w0 N o f es fun f' es' => AList P w0 N ops rest f' es' K) : AList P w0 N ops (o :: rest) f es K :=
  l_guard hg hd hN hb hdst (fun _ => h1) (fun h => by cases want <;> cases h)
theorem l_guard_no {K : Frame → List Ent → Prop} {j d : Nat} {want : Bool} (hg : o.guard = some (j, want)) (hd : (ops[j]?).bind (·.dst) = some d) (hN : Nat.blt d N = true) (hb : f d = .bool (!want)) (hdst : dok N o.dst = true)
    (h2 : AList P w0 N ops rest (put f o.dst (.raw undef)) es K) : AList P w0 N ops (o :: rest) f es K :=
  l_guard hg hd hN hb hdst (fun h => by cases want <;> cases h) (fun _ => h2)

/-! ### code -/
def kseq (K1 : Frame → List Ent → Prop) (K : Exit → Frame → List Ent → Prop) : Exit → Frame → List Ent → Prop
  | .normal, f, es => K1 f es
  | e, f, es => K e f es
def kblk (id : Nat) (K : Exit → Frame → List Ent → Prop) : Exit → Frame → List Ent → Prop
  | .exit id', f, es => if id' = id then K .normal f es else K (.exit id') f es
  | e, f, es => K e f es

variable {K : Exit → Frame → List Ent → Prop}
theorem w_region {id : Nat} {l : List Oper} (h : AList P w0 N l.toArray l f es (K .normal)) : AWp P w0 N (.region id l.toArray false) f es K :=
  fun c A Q ok rf hk => wp_region_lit (h c A Q ok rf fun c' es' f' A' x ok' rf' k => hk .normal c' es' f' A' x ok' rf' k)
theorem w_seq {x y : Code} (h : AWp P w0 N x f es (kseq (fun f' es' => AWp P w0 N y f' es' K) K)) : AWp P w0 N (.seq x y) f es K := by
  intro c A Q ok rf hk
  refine wp_seq (h c A _ ok rf fun e c' es' f' A' x1 ok' rf' k => ?_)
  cases e with
  | normal => exact k c' A' Q ok' rf' fun e c2 es2 f2 A2 x2 ok2 rf2 k2 => hk e c2 es2 f2 A2 (x1.trans x2) ok2 rf2 k2
  | exit id => exact hk _ c' es' f' A' x1 ok' rf' k
  | goto l => exact hk _ c' es' f' A' x1 ok' rf' k
  | ret => exact hk _ c' es' f' A' x1 ok' rf' k
  | panic ch => exact hk _ c' es' f' A' x1 ok' rf' k
  | outgrown => exact hk _ c' es' f' A' x1 ok' rf' k
theorem w_skip (h : K .normal f es) : AWp P w0 N .skip f es K :=
  fun c A Q ok rf hk => wp_skip (hk _ c es f A (Ext.refl c es) ok rf h)
theorem w_exit {id : Nat} (h : K (.exit id) f es) : AWp P w0 N (.exit id) f es K :=
  fun c A Q ok rf hk => wp_exit (hk _ c es f A (Ext.refl c es) ok rf h)
theorem w_ret (h : K .ret f es) : AWp P w0 N .ret f es K :=
  fun c A Q ok rf hk => wp_ret (hk _ c es f A (Ext.refl c es) ok rf h)
theorem w_cond {x : Operand} {c1 c2 : Code} {b : Bool} (hx : ev f x = .bool b) (h1 : b = true → AWp P w0 N c1 f es K) (h2 : b = false → AWp P w0 N c2 f es K) : AWp P w0 N (.cond x c1 c2) f es K := by
  intro c A Q ok rf hk
  have h := rep_ev rf x
  rw [hx] at h
  simp only [Rep] at h
  refine wp_cond_split h (fun e => h1 e c A Q ok rf hk) (fun e => h2 e c A Q ok rf hk)
theorem w_cond_true {x : Operand} {c1 c2 : Code} (hx : ev f x = .bool true) (h1 : AWp P w0 N c1 f es K) : AWp P w0 N (.cond x c1 c2) f es K :=
  w_cond hx (fun _ => h1) (fun h => by cases h)
theorem w_cond_false {x : Operand} {c1 c2 : Code} (hx : ev f x = .bool false) (h1 : AWp P w0 N c2 f es K) : AWp P w0 N (.cond x c1 c2) f es K :=
  w_cond hx (fun h => by cases h) (fun _ => h1)
theorem w_block {id : Nat} {b : Code} (h : AWp P w0 N b f es (kblk id K)) : AWp P w0 N (.block id b) f es K := by
  intro c A Q ok rf hk
  refine wp_block (h c A _ ok rf fun e c' es' f' A' x ok' rf' k => ?_)
  cases e with
  | exit id' =>
    simp only [kblk] at k
    simp only [Exit.inBlock]
    split
    · rename_i e
      rw [if_pos e] at k
      exact hk _ c' es' f' A' x ok' rf' k
    · rename_i e
      rw [if_neg e] at k
      exact hk _ c' es' f' A' x ok' rf' k
  | normal => exact hk _ c' es' f' A' x ok' rf' k
  | goto l => exact hk _ c' es' f' A' x ok' rf' k
  | ret => exact hk _ c' es' f' A' x ok' rf' k
  | panic ch => exact hk _ c' es' f' A' x ok' rf' k
  | outgrown => exact hk _ c' es' f' A' x ok' rf' k

theorem wp_loop_ind {cd : Code} {Q : Exit → Act → World → Prop} (J : Nat → Act → World → Prop)
    (round : ∀ n a w, J n a w → cd.wp P (Exit.then (fun a' w' => ∃ m, m < n ∧ J m a' w') Q) a w) (n : Nat) (a : Act) (w : World) (h0 : J n a w) : (Code.loop cd).wp P Q a w := by
  intro b k cs
  have key : ∀ n a w, J n a w → ∃ e a' w', Q e a' w' ∧ Arrives P (lone (b.at a (.code cd :: .inLoop cd :: k)) cs w) b k cs e a' w' := by
    intro n
    induction n using Nat.strongRecOn with
    | _ n ih =>
      intro a w hJ
      obtain ⟨e, a₁, w₁, hq, harr⟩ := round n a w hJ b (.inLoop cd :: k) cs
      cases e with
      | normal =>
        obtain ⟨m, hlt, hI₁⟩ := hq
        obtain ⟨e₂, a₂, w₂, hq₂, harr₂⟩ := ih m hlt a₁ w₁ hI₁
        exact ⟨e₂, a₂, w₂, hq₂, .of_steps (Steps.trans harr (.one step_inLoop)) harr₂⟩
      | exit id => exact ⟨_, a₁, w₁, hq, .pass (x := .inLoop cd) rfl (fun _ _ => .inl (by simp)) harr⟩
      | goto l => exact ⟨_, a₁, w₁, hq, .pass (x := .inLoop cd) rfl (fun _ _ => .inl (by simp)) harr⟩
      | ret => exact ⟨_, a₁, w₁, hq, .pass (x := .inLoop cd) rfl (fun _ _ => .inl (by simp)) harr⟩
      | panic ch => exact ⟨_, a₁, w₁, hq, .pass (x := .inLoop cd) rfl (fun _ _ => .inl (by simp)) harr⟩
      | outgrown => exact ⟨_, a₁, w₁, hq, .pass (x := .inLoop cd) rfl (fun _ _ => .inl (by simp)) harr⟩
  obtain ⟨e, a', w', hq, harr⟩ := key n a w h0
  exact ⟨e, a', w', hq, .of_steps (.one step_loop) harr⟩
/-- A loop: I n f es holds at the head of a round, n falls. -/
theorem w_loop {cd : Code} (I : Nat → Frame → List Ent → Prop) (n : Nat) (h0 : I n f es)
    (round : ∀ n f es, I n f es → AWp P w0 N cd f es (kseq (fun f' es' => ∃ m, m < n ∧ I m f' es') K)) : AWp P w0 N (.loop cd) f es K := by
  intro c A Q ok rf hk
  refine wp_loop_ind (fun m a w => ∃ c' es' f', c'.w = w ∧ Ext c es c' es' ∧ Ok w0 c' es' ∧ RepF N c' es' f' a ∧ I m f' es') ?_ n A c.w ⟨c, es, f, rfl, Ext.refl c es, ok, rf, h0⟩
  rintro m a w ⟨c1, es1, f1, rfl, x1, ok1, rf1, i1⟩
  refine round m f1 es1 i1 c1 a _ ok1 rf1 fun e c' es' f' A' x2 ok' rf' k => ?_
  cases e with
  | normal => obtain ⟨m', hlt, i2⟩ := k; exact ⟨m', hlt, c', es', f', rfl, x1.trans x2, ok', rf', i2⟩
  | exit id => exact hk _ c' es' f' A' (x1.trans x2) ok' rf' k
  | goto l => exact hk _ c' es' f' A' (x1.trans x2) ok' rf' k
  | ret => exact hk _ c' es' f' A' (x1.trans x2) ok' rf' k
  | panic ch => exact hk _ c' es' f' A' (x1.trans x2) ok' rf' k
  | outgrown => exact hk _ c' es' f' A' (x1.trans x2) ok' rf' k

/-! ### knowing less -/
/-- f' knows no more than f. -/
def Less (f' f : Frame) : Prop := ∀ t, f' t = f t ∨ f' t = .any
theorem RepF.less {c : Core} {f' : Frame} {A : Act} (h : RepF N c es f A) (l : Less f' f) : RepF N c es f' A :=
  ⟨h.size, fun t => by
    rcases l t with e | e
    · rw [e]; exact h.rep t
    · rw [e]; simp only [Rep], h.defers⟩
/-- Slots and entries are forgotten. -/
theorem w_less {code : Code} {f' : Frame} {es' : List Ent} (l : Less f' f) (s : Sub es' es) (h : AWp P w0 N code f' es' K) : AWp P w0 N code f es K :=
  fun c A Q ok rf hk => h c A Q (s.ok ok) ((rf.less l).ext (s.ext c)) fun e c' es2 f2 A2 x ok2 rf2 k => hk e c' es2 f2 A2 ((s.ext c).trans x) ok2 rf2 k
/-- The nil slice in slot t, taken for a row of one's own. -/
theorem w_adopt {code : Code} (t e sz : Nat) (ht : f t = .nil) (h : ∀ s, AWp P w0 N code (upd f t (.own es.length s)) (.row s e sz [] :: es) K) : AWp P w0 N code f es K := by
  intro c A Q ok rf hk
  have x := ext_adopt (w0 := w0) (c := c) (es := es) e sz
  refine h c.now (c.adopt es) A Q (ok_adopt ok e sz) ⟨rf.size, fun u => ?_, rf.defers⟩ fun e c' es2 f2 A2 x2 ok2 rf2 k => hk e c' es2 f2 A2 (x.trans x2) ok2 rf2 k
  by_cases hu : u = t
  · subst hu
    rw [upd_same]
    have := rf.rep u
    rw [ht] at this
    simp only [Rep] at this ⊢
    refine ⟨_, rfl, ⟨_, _, _, this⟩, Nat.lt_succ_self _, fun e' sz' rows' hr => ?_⟩
    rw [at_hit] at hr
    injection hr with hr
    injection hr with _ _ _ hr
    subst hr
    simp [Core.adopt, ownVal, this]
  · rw [upd_ne _ _ hu]
    exact Rep.ext (es := some es) (es' := some _) _ x (rf.rep u)
/-- The row in slot t is written no more: it is a list from here on. -/
theorem w_freeze {code : Code} (t : Nat) {id s e sz : Nat} {rows : List (List AV)} (ht : f t = .own id s) (hid : at_ es id = some (.row s e sz rows)) (hclean : rows.all cleans = true) (h : AWp P w0 N code (upd f t (.list sz rows)) (setAt es id .dead) K) : AWp P w0 N code f es K := by
  intro c A Q ok rf hk
  have x := ext_freeze (c := c) (es := es) id
  refine h (c.freeze id) A Q (ok_freeze ok hid) ⟨rf.size, fun u => ?_, rf.defers⟩ fun e c' es2 f2 A2 x2 ok2 rf2 k => hk e c' es2 f2 A2 (x.trans x2) ok2 rf2 k
  by_cases hu : u = t
  · subst hu
    rw [upd_same]
    have := rf.rep u
    rw [ht] at this
    simp only [Rep] at this
    obtain ⟨_, he, _, h1, h2⟩ := this
    injection he with he
    subst he
    rw [h2 _ _ _ hid]
    exact rep_freeze ok hid hclean _
  · rw [upd_ne _ _ hu]
    exact Rep.ext (es := some es) (es' := some _) _ x (rf.rep u)

/-! ### calls -/
def entry (args : List AV) : Frame := fun t => args.getD t .any
/-- What a function answers from its last frame: r. -/
def ARes (P : Program) (w0 : World) (N : Nat) (fn : Func) (f : Frame) (es : List Ent) (r : AV) : Prop :=
  ∀ (c : Core) (A : Act), Ok w0 c es → RepF N c es f A → ∃ v, (results fn A.tmps).run P c.w = .ok v c.w ∧ Rep c (some es) r v
def kret (P : Program) (w0 : World) (N : Nat) (fn : Func) (R : AV → List Ent → Prop) : Exit → Frame → List Ent → Prop
  | .ret, f, es => ∃ r es2, ARes P w0 N fn f es r ∧ Sub es2 es ∧ R r es2
  | .normal, f, es => ∃ r es2, ARes P w0 N fn f es r ∧ Sub es2 es ∧ R r es2
  | _, _, _ => False
theorem Reps.entry {c : Core} {es : Option (List Ent)} {args : List AV} {vs : List Value} (h : Reps c es args vs) (n : Nat) (t : Nat) : Rep c es (entry args t) ((vs.toArray ++ Array.replicate n undef).getD t undef) := by
  by_cases ht : t < args.length
  · have := h.get t
    rw [show (vs.toArray ++ Array.replicate n undef).getD t undef = vs.getD t undef by
      rw [Array.getD_eq_getD_getElem?, Array.getElem?_append_left (by simpa [h.length] using ht)]
      simp [List.getD]]
    exact this
  · rw [show Av.entry args t = .any by simp [Av.entry, List.getD, List.getElem?_eq_none (by omega : args.length ≤ t)]]
    simp only [Rep]
theorem calls_intro {fid : FuncId} {fn : Func} {cd : Code} {args : List AV} {R : AV → List Ent → Prop} (hf : P.funcs[fid]? = some fn) (hb : fn.body = some cd) (hN : fn.ntmps = N) (hl : args.length ≤ N)
    (h : AWp P w0 N cd (entry args) es (kret P w0 N fn R)) : ACalls P w0 fid args es R := by
  intro c vs ok rs
  have hsz : vs.size = args.length := by rw [← Array.length_toList]; exact rs.length
  refine calls_of_wp hf hb (h c _ _ ok ⟨?_, fun t => ?_, rfl⟩ fun e c' es' f' A' x ok' rf' k => ?_)
  · simp only [Array.size_append, Array.size_replicate, hN]
    omega
  · have := rs.entry (fn.ntmps - vs.size) t
    simpa using this
  · have fin : (∃ r es2, ARes P w0 N fn f' es' r ∧ Sub es2 es' ∧ R r es2) → A'.defers = [] ∧ ∃ v, (results fn A'.tmps).run P c'.w = .ok v c'.w ∧ ∃ v0 c2 es2 r, Ending.returned v = .returned v0 ∧ c2.w = c'.w ∧ Ext c es c2 es2 ∧ Ok w0 c2 es2 ∧ Rep c2 es2 r v0 ∧ R r es2 := by
      rintro ⟨r, es2, hr, hs, hR⟩
      obtain ⟨v, hv, hrep⟩ := hr c' A' ok' rf'
      exact ⟨rf'.defers, v, hv, v, c', es2, r, rfl, rfl, x.trans (hs.ext c'), hs.ok ok', Rep.ext (es := some _) (es' := some _) _ (hs.ext c') hrep, hR⟩
    cases e with
    | ret => exact fin k
    | normal => exact fin k
    | exit id => exact k.elim
    | goto l => exact k.elim
    | panic ch => exact k.elim
    | outgrown => exact k.elim
theorem res_tmp {fn : Func} {t : Nat} (h : fn.results = #[.tmp t]) : ARes P w0 N fn f es (f t) :=
  fun c A ok rf => ⟨A.tmps.getD t undef, by simp [results, h], rf.rep t⟩
theorem res_tmp2 {fn : Func} {t u : Nat} (h : fn.results = #[.tmp t, .tmp u]) : ARes P w0 N fn f es (.tup [f t, f u]) :=
  fun c A ok rf => ⟨.tuple #[A.tmps.getD t undef, A.tmps.getD u undef], by simp [results, h], by simp only [Rep, Reps]; exact ⟨_, rfl, _, _, rfl, rf.rep t, _, _, rfl, rf.rep u, rfl⟩⟩
theorem res_none {fn : Func} (h : fn.results = #[]) : ARes P w0 N fn f es (.tup []) :=
  fun c A ok rf => ⟨.tuple #[], by simp [results, h], by simp only [Rep, Reps]; exact ⟨_, rfl, rfl⟩⟩
end
end Go.Proofs.YtfdgbghlanbddaaDoor.Av
