/- The walk over the small separation logic: what stands in the slots, plain operations run by the kernel, the ways of the code. -/
import Derived.Test.YtkhkdedngnneiaaGreatSl
import Derived.Laws.Sem
import Derived.Laws.Cells
import Derived.Laws.CopyRow
import Derived.OrdersIn
import Derived.RangeFuncLeaves
namespace Go.Sl

abbrev Slots := List (Nat × Value)

/-- A frame: how many slots; of which round (none: a function's own); what is deferred. -/
structure Fm where
  sz : Nat
  rd : Option Nat := none
  df : List Deferred := []

abbrev Fr (r : Option Nat) : Fence := { Fence.wide with round := r }
theorem fr_room (r : Option Nat) (n : Nat) : (Fr r).room n := fun _ h => by simp [Fence.wide] at h

def Fits (n : Fm) (a : Act) (env : Slots) : Prop :=
  a.tmps.size = n.sz ∧ a.defers = n.df ∧ ∀ p ∈ env, a.tmps[p.1]? = some p.2

def look : Slots → Nat → Option Value
  | [], _ => none
  | (e, v) :: r, d => match Nat.beq e d with
    | true => some v
    | false => look r d

def cutE (d : Nat) : Slots → Slots
  | [] => []
  | (e, v) :: r => match Nat.beq e d with
    | true => cutE d r
    | false => (e, v) :: cutE d r

def putE (d : Option Nat) (v : Value) (env : Slots) : Slots :=
  match d with
  | none => env
  | some d => (d, v) :: cutE d env

def evalE (env : Slots) : Operand → Option Value
  | .tmp t => look env t
  | .const v => some v
  | .global g => some (.pointer (some ⟨g, 0, none⟩))
  | .func f => some (.func (.func f) #[] #[])

def evalD (env : Slots) (x : Operand) : Value := (evalE env x).getD undef

theorem look_mem : ∀ {env : Slots} {d : Nat} {v : Value}, look env d = some v → (d, v) ∈ env := by
  intro env
  induction env with
  | nil => intro d v h; simp [look] at h
  | cons p r ih =>
    obtain ⟨e, u⟩ := p
    intro d v h
    simp only [look] at h
    split at h
    · rename_i hb
      have := Nat.eq_of_beq_eq_true hb
      simp at h; subst this; subst h; simp
    · exact List.mem_cons_of_mem _ (ih h)

theorem cut_mem : ∀ {env : Slots} {d : Nat} {p : Nat × Value}, p ∈ cutE d env → p ∈ env ∧ p.1 ≠ d := by
  intro env
  induction env with
  | nil => intro d p h; simp [cutE] at h
  | cons q r ih =>
    obtain ⟨e, u⟩ := q
    intro d p h
    simp only [cutE] at h
    split at h
    · obtain ⟨h1, h2⟩ := ih h; exact ⟨List.mem_cons_of_mem _ h1, h2⟩
    · rename_i hb
      rcases List.mem_cons.1 h with rfl | h
      · exact ⟨by simp, Nat.ne_of_beq_eq_false hb⟩
      · obtain ⟨h1, h2⟩ := ih h; exact ⟨List.mem_cons_of_mem _ h1, h2⟩

variable {n : Fm} {a : Act} {env env' : Slots}

theorem Fits.look (f : Fits n a env) {d : Nat} {v : Value} (h : Sl.look env d = some v) : a.tmps[d]? = some v := f.2.2 _ (look_mem h)

theorem Fits.eval (f : Fits n a env) {x : Operand} {v : Value} (h : evalE env x = some v) : a.eval x = v := by
  cases x with
  | tmp t => have := f.look h; simp [Act.eval, this]
  | const u => simp [evalE] at h; subst h; rfl
  | global g => simp [evalE] at h; subst h; rfl
  | func g => simp [evalE] at h; subst h; rfl

def dstOk (n : Nat) : Option Nat → Bool
  | none => true
  | some d => Nat.blt d n

theorem Fits.put (f : Fits n a env) {d : Option Nat} (hd : dstOk n.sz d = true) (v : Value) : Fits n (a.put d v) (putE d v env) := by
  obtain ⟨h1, h2, h3⟩ := f
  cases d with
  | none => exact ⟨h1, h2, h3⟩
  | some d =>
    have hlt : d < n.sz := by simpa [dstOk, Nat.blt_eq] using hd
    refine ⟨by simp [Act.put, h1], by simp [Act.put, h2], ?_⟩
    intro p hp
    simp only [putE, List.mem_cons] at hp
    rcases hp with rfl | hp
    · simp [Act.put, h1, hlt]
    · obtain ⟨h4, h5⟩ := cut_mem hp
      simp only [Act.put]
      rw [Array.getElem?_setIfInBounds_ne (fun e => h5 e.symm)]
      exact h3 _ h4

/-- Fewer slots. -/
theorem Fits.less (f : Fits n a env) (h : (env'.map fun p => Sl.look env p.1) = env'.map fun p => some p.2) : Fits n a env' := by
  refine ⟨f.1, f.2.1, fun p hp => ?_⟩
  have := (List.map_inj_left.1 h) p hp
  exact f.look this

/-! Plain operations. -/

def pureS {α : Type} (P : Program) : Sem α → Option α
  | .pure a => some a
  | .program k => pureS P (k P)
  | _ => none

theorem pureS_run {α : Type} {P : Program} : ∀ {s : Sem α} {x : α}, pureS P s = some x → ∀ w, s.run P w = .ok x w := by
  intro s
  induction s with
  | pure a => intro x h w; simp [pureS] at h; subst h; rfl
  | program k ih => intro x h w; simp only [pureS] at h; simp only [Sem.run]; exact ih P h w
  | _ => intro x h; simp [pureS] at h

def known (env : Slots) (o : Oper) : Bool :=
  (o.op.operands.toList.all fun x => (evalE env x).isSome) && (match o.op with | .select .. => false | .defer .. => false | _ => true)

theorem known_exec {o : Oper} (f : Fits n a env) (h : known env o = true) : execOp a.eval o = execOp (evalD env) o := by
  simp only [known, Bool.and_eq_true] at h
  refine execOp_congr o (fun cs b e => by simp [e] at h) (fun x hx => ?_)
  have := List.all_eq_true.1 h.1 x (by simpa using hx)
  obtain ⟨v, hv⟩ := Option.isSome_iff_exists.1 this
  rw [f.eval hv, evalD, hv]; rfl

theorem known_nodefer {o : Oper} (h : known env o = true) : ∀ c, o.op ≠ .defer c := by
  intro c e
  simp [known, e] at h

def wantE (ops : Array Oper) (env : Slots) (o : Oper) : Option Bool :=
  match o.guard with
  | none => some true
  | some (j, want) => match ((ops[j]?).bind (·.dst)).bind (look env) with
    | some (.bool b) => some (b == want)
    | some (.tuple _) => some false
    | _ => none

theorem wantE_ok {ops : Array Oper} {o : Oper} {b : Bool} (f : Fits n a env) (h : wantE ops env o = some b) : Region.wanted o (yielded ops a.tmps) = b := by
  unfold wantE at h
  unfold Region.wanted
  split at h
  · rename_i hg; simp [hg] at h ⊢; exact h
  · rename_i j want hg
    simp only [hg]
    split at h
    · rename_i b' hb
      simp at h
      cases hd : (ops[j]?).bind (·.dst) with
      | none => simp [hd] at hb
      | some d =>
        simp [hd] at hb
        have := f.look hb
        simp only [yielded, hd, Option.bind_some, this]
        rw [← h]; rfl
    · rename_i vs hb
      simp at h
      cases hd : (ops[j]?).bind (·.dst) with
      | none => simp [hd] at hb
      | some d =>
        simp [hd] at hb
        have := f.look hb
        simp only [yielded, hd, Option.bind_some, this]
        rw [h]; rfl
    · simp at h

def pureOp (P : Program) (env : Slots) (o : Oper) : Option Value :=
  match known env o with
  | false => none
  | true => match pureS P (execOp (evalD env) o) with
    | some (.value v) => some v
    | _ => none

theorem pureOp_run {P : Program} {o : Oper} {v : Value} (f : Fits n a env) (h : pureOp P env o = some v) (w : World) : (execOp a.eval o).run P w = .ok (.value v) w := by
  unfold pureOp at h
  split at h
  · simp at h
  · rename_i hk
    rw [known_exec f hk]
    split at h
    · rename_i u hu; simp at h; subst h; exact pureS_run hu w
    · simp at h

/-! The code and the ways through it. -/

def child : Code → Bool → Option Code
  | .seq x _, false => some x
  | .seq _ y, true => some y
  | .cond _ x _, false => some x
  | .cond _ _ y, true => some y
  | .block _ x, _ => some x
  | .loop x, _ => some x
  | .scope x, _ => some x
  | .rangeFunc _ _ x _, false => some x
  | .rangeFunc _ _ _ y, true => some y
  | _, _ => none

def codeAtF (c : Code) : Nat → Nat → Option Code
  | 0, _ => none
  | f + 1, p => match Nat.ble p 1 with
    | true => some c
    | false => match codeAtF c f (p / 2) with
      | none => none
      | some d => child d (Nat.beq (p % 2) 1)
def codeAt (c : Code) (p : Nat) : Option Code := codeAtF c 600 p

def opsAt (c : Code) (p : Nat) : Array Oper := match codeAt c p with
  | some (.region _ ops _) => ops
  | _ => #[]

inductive It where
  | c (p : Nat)
  | b (id : Nat)
  | o (p i : Nat)
  | stop (M : Act → World → Prop)

def exitK (id : Nat) : List It → Option (List It)
  | [] => none
  | .b id' :: k => match Nat.beq id' id with
    | true => some k
    | false => exitK id k
  | _ :: k => exitK id k

def denE (P : Program) (c0 : Code) (r : Option Nat) (fin : Act → World → Prop) : Exit → List It → Act → World → Prop
  | .ret, _, a, w => r = none ∧ fin a w
  | .normal, [], a, w => fin a w
  | .normal, .c p :: k, a, w => match codeAt c0 p with
    | some c => c.wpIn (Fr r) 0 P (fun e => denE P c0 r fin e k) a w
    | none => False
  | .normal, .b _ :: k, a, w => denE P c0 r fin .normal k a w
  | .normal, .o p i :: k, a, w => wpOpsIn (Fr r) 0 P (opsAt c0 p) (fun e => denE P c0 r fin e k) (List.range' i ((opsAt c0 p).size - i)) a w
  | .normal, .stop M :: _, a, w => M a w
  | .exit id, .b id' :: k, a, w => if id' = id then denE P c0 r fin .normal k a w else denE P c0 r fin (.exit id) k a w
  | .exit id, .c _ :: k, a, w => denE P c0 r fin (.exit id) k a w
  | .exit id, .o _ _ :: k, a, w => denE P c0 r fin (.exit id) k a w
  | .exit id, .stop _ :: k, a, w => denE P c0 r fin (.exit id) k a w
  | .exit _, [], _, _ => False
  | .goto _, _, _, _ => False
  | .panic _, _, _, _ => False
  | .outgrown, _, _, _ => False

variable {P : Program} {c0 : Code} {r : Option Nat} {fin : Act → World → Prop} {w : World}

theorem denE_exit {id : Nat} : ∀ {k k' : List It}, exitK id k = some k' → denE P c0 r fin .normal k' a w → denE P c0 r fin (.exit id) k a w := by
  intro k
  induction k with
  | nil => intro k' h; simp [exitK] at h
  | cons x k ih =>
    intro k' h d
    cases x with
    | b id' =>
      simp only [exitK] at h
      simp only [denE]
      split at h
      · rename_i hb
        have := Nat.eq_of_beq_eq_true hb
        simp at h; subst h; rw [if_pos this]; exact d
      · rename_i hb
        rw [if_neg (Nat.ne_of_beq_eq_false hb)]; exact ih h d
    | c p => simp only [exitK] at h; simp only [denE]; exact ih h d
    | o p i => simp only [exitK] at h; simp only [denE]; exact ih h d
    | stop M => simp only [exitK] at h; simp only [denE]; exact ih h d

def G (P : Program) (c0 : Code) (fin : Act → World → Prop) (E : Env) (n : Fm) (todo : List It) (env : Slots) (L : List Chunk) : Prop :=
  ∀ a w, Fits n a env → sat E w L → denE P c0 n.rd fin .normal todo a w

variable {E : Env} {L : List Chunk} {todo todo' k : List It}

def advC (c0 : Code) (r : Option Nat) (env : Slots) (p : Nat) (k : List It) : Option (List It × Slots) :=
  match codeAt c0 p with
  | some .skip => some (k, env)
  | some (.label _) => some (k, env)
  | some .ret => match r with
    | none => some ([], env)
    | some _ => none
  | some (.seq _ _) => some (.c (2 * p) :: .c (2 * p + 1) :: k, env)
  | some (.cond x _ _) => match evalE env x with
    | some (.bool true) => some (.c (2 * p) :: k, env)
    | some (.bool false) => some (.c (2 * p + 1) :: k, env)
    | _ => none
  | some (.block id _) => some (.c (2 * p) :: .b id :: k, env)
  | some (.region _ _ false) => some (.o p 0 :: k, env)
  | some (.exit id) => match exitK id k with
    | some k' => some (k', env)
    | none => none
  | _ => none

/-- One move that no memory is asked for. -/
def adv1 (P : Program) (c0 : Code) (n : Fm) (env : Slots) : List It → Option (List It × Slots)
  | [] => none
  | .stop _ :: _ => none
  | .b _ :: k => some (k, env)
  | .c 0 :: _ => none
  | .c (q + 1) :: k => advC c0 n.rd env (q + 1) k
  | .o p i :: k => match (opsAt c0 p)[i]? with
    | none => some (k, env)
    | some o => match dstOk n.sz o.dst with
      | false => none
      | true => match wantE (opsAt c0 p) env o with
        | some false => some (.o p (i + 1) :: k, putE o.dst undef env)
        | some true => match pureOp P env o with
          | some v => some (.o p (i + 1) :: k, putE o.dst v env)
          | none => none
        | none => none

theorem codeAtF_more {c : Code} : ∀ {f p : Nat} {d : Code}, codeAtF c f p = some d → codeAtF c (f + 1) p = some d := by
  intro f
  induction f with
  | zero => intro p d h; simp [codeAtF] at h
  | succ f ih =>
    intro p d h
    rw [codeAtF] at h ⊢
    split
    · rename_i hb; simp only [hb] at h; exact h
    · rename_i hb
      simp only [hb] at h
      split at h
      · simp at h
      · rename_i d' hd'
        rw [ih hd']; exact h

/-- The code at p's child, where that is not too deep. -/
theorem codeAt_kid {c d : Code} {p : Nat} (h : codeAt c p = some d) (h1 : 1 ≤ p) (b : Bool) {x : Code} (hx : codeAt c (2 * p + (bif b then 1 else 0)) = some x) : child d b = some x := by
  unfold codeAt at h hx
  rw [show (600 : Nat) = 599 + 1 from rfl, codeAtF] at hx
  have hb : Nat.ble (2 * p + (bif b then 1 else 0)) 1 = false := by
    cases hb : Nat.ble (2 * p + (bif b then 1 else 0)) 1 with
    | false => rfl
    | true => have := Nat.le_of_ble_eq_true hb; omega
  simp only [hb] at hx
  have e : (2 * p + (bif b then 1 else 0)) / 2 = p := by cases b <;> simp <;> omega
  have e2 : (2 * p + (bif b then 1 else 0)) % 2 = (bif b then 1 else 0) := by cases b <;> simp <;> omega
  rw [e, e2] at hx
  split at hx
  · simp at hx
  · rename_i d' hd'
    have := codeAtF_more hd'
    rw [show (599 : Nat) + 1 = 600 from rfl, h] at this
    simp at this; subst this
    cases b <;> exact hx


theorem kid0 {c d x : Code} {p : Nat} (h : codeAt c p = some d) (h1 : 1 ≤ p) (hx : codeAt c (2 * p) = some x) : child d false = some x := codeAt_kid h h1 false (x := x) (by simpa using hx)
theorem kid1 {c d x : Code} {p : Nat} (h : codeAt c p = some d) (h1 : 1 ≤ p) (hx : codeAt c (2 * p + 1) = some x) : child d true = some x := codeAt_kid h h1 true (x := x) (by simpa using hx)

theorem denE_c {p : Nat} {x : Code} (h : codeAt c0 p = some x) : denE P c0 r fin .normal (.c p :: k) a w = x.wpIn (Fr r) 0 P (fun e => denE P c0 r fin e k) a w := by simp only [denE, h]
theorem denE_c' {p : Nat} (hd : denE P c0 r fin .normal (.c p :: k) a w) : ∃ x, codeAt c0 p = some x ∧ x.wpIn (Fr r) 0 P (fun e => denE P c0 r fin e k) a w := by
  cases h : codeAt c0 p with
  | none => simp [denE, h] at hd
  | some x => rw [denE_c h] at hd; exact ⟨x, rfl, hd⟩

theorem wpOpsIn_cons' {ops : Array Oper} {Q : Exit → Act → World → Prop} (i : Nat) (rest : List Nat) (a : Act) (w : World) {r : Option Nat} {o : Oper} (ho : ops[i]? = some o) (b : Bool)
    (hw : Region.wanted o (yielded ops a.tmps) = b) (h : if b = true then o.wpIn (Fr r) 0 P a w (wpOpsIn (Fr r) 0 P ops Q rest) Q else wpOpsIn (Fr r) 0 P ops Q rest (a.put o.dst undef) w) :
    wpOpsIn (Fr r) 0 P ops Q (i :: rest) a w := by
  rw [wpOpsIn_cons]
  simp only [wpOpIn, ho, hw]
  cases b with
  | true => simpa using h
  | false => exact ⟨fun _ _ => trivial, h⟩
theorem wpIn_val {o : Oper} {r : Option Nat} {next : Act → World → Prop} {Q : Exit → Act → World → Prop} {v : Value} {w' : World} (hd : ∀ c, o.op ≠ .defer c) (h : (execOp a.eval o).run P w = .ok (.value v) w')
    (g : next (a.put o.dst v) w') : o.wpIn (Fr r) 0 P a w next Q := by
  refine ⟨fun _ _ => trivial, ?_⟩
  rw [Oper.semAt_eq _ _ _ hd, h]; exact g
theorem wpIn_skp {o : Oper} {r : Option Nat} {next : Act → World → Prop} {Q : Exit → Act → World → Prop} {w' : World} (hd : ∀ c, o.op ≠ .defer c) (h : (execOp a.eval o).run P w = .ok .skip w')
    (g : next (a.put o.dst undef) w') : o.wpIn (Fr r) 0 P a w next Q := by
  refine ⟨fun _ _ => trivial, ?_⟩
  rw [Oper.semAt_eq _ _ _ hd, h]; exact g
theorem pureOp_nodefer {o : Oper} {v : Value} (h : pureOp P env o = some v) : ∀ c, o.op ≠ .defer c := by
  unfold pureOp at h
  split at h
  · simp at h
  · rename_i hk; exact known_nodefer hk

theorem adv1_sound (h : adv1 P c0 n env todo = some (todo', env')) (g : G P c0 fin E n todo' env' L) : G P c0 fin E n todo env L := by
  intro a w f s
  match todo, h with
  | .b id :: k, h => simp [adv1] at h; obtain ⟨rfl, rfl⟩ := h; simp only [denE]; exact g a w f s
  | .c (q + 1) :: k, h =>
    have hp : 1 ≤ q + 1 := by omega
    simp only [adv1, advC] at h
    generalize q + 1 = p at *
    cases hc : codeAt c0 p with
    | none => simp [hc] at h
    | some c =>
      rw [denE_c hc]
      rw [hc] at h
      cases c with
      | skip => simp at h; obtain ⟨rfl, rfl⟩ := h; exact wpIn_skip (g a w f s)
      | label l => simp at h; obtain ⟨rfl, rfl⟩ := h; exact wpIn_label (g a w f s)
      | ret =>
        simp only at h
        split at h
        · rename_i hr
          simp at h; obtain ⟨rfl, rfl⟩ := h; exact wpIn_ret (by simp only [denE]; exact ⟨hr, by simpa [denE] using g a w f s⟩)
        · simp at h
      | seq x y =>
        simp at h; obtain ⟨rfl, rfl⟩ := h
        obtain ⟨x', hx', hw⟩ := denE_c' (g a w f s)
        have := kid0 hc hp hx'; simp [child] at this; subst this
        refine wpIn_seq (wpIn_mono hw fun e a' w' d => ?_)
        cases e with
        | normal =>
          obtain ⟨y', hy', hw'⟩ := denE_c' d
          have := kid1 hc hp hy'; simp [child] at this; subst this
          exact hw'
        | exit id => simpa [denE, Exit.then] using d
        | goto l => simp [denE] at d
        | ret => simpa [denE, Exit.then] using d
        | panic ch => simp [denE] at d
        | outgrown => simp [denE] at d
      | cond x y z =>
        simp only at h
        split at h
        · rename_i hv; simp at h; obtain ⟨rfl, rfl⟩ := h
          obtain ⟨x', hx', hw⟩ := denE_c' (g a w f s)
          have := kid0 hc hp hx'; simp [child] at this; subst this
          exact wpIn_cond_true (f.eval hv) hw
        · rename_i hv; simp at h; obtain ⟨rfl, rfl⟩ := h
          obtain ⟨x', hx', hw⟩ := denE_c' (g a w f s)
          have := kid1 hc hp hx'; simp [child] at this; subst this
          exact wpIn_cond_false (f.eval hv) hw
        · simp at h
      | block id x =>
        simp at h; obtain ⟨rfl, rfl⟩ := h
        obtain ⟨x', hx', hw⟩ := denE_c' (g a w f s)
        have := kid0 hc hp hx'; simp [child] at this; subst this
        refine wpIn_block (wpIn_mono hw fun e a' w' d => ?_)
        cases e with
        | normal => simpa [denE, Exit.inBlock] using d
        | exit id' =>
          simp only [denE] at d
          simp only [Exit.inBlock]
          by_cases hid : id = id'
          · rw [if_pos hid] at d; rw [if_pos hid.symm]; exact d
          · rw [if_neg hid] at d; rw [if_neg (fun e => hid e.symm)]; exact d
        | goto l => simp [denE] at d
        | ret => simpa [denE, Exit.inBlock] using d
        | panic ch => simp [denE] at d
        | outgrown => simp [denE] at d
      | region id ops dr =>
        cases dr with
        | true => simp at h
        | false =>
          simp at h; obtain ⟨rfl, rfl⟩ := h
          have hd := g a w f s
          simp only [denE, opsAt, hc, Nat.sub_zero] at hd
          exact wpIn_region (by rw [List.range_eq_range']; exact hd)
      | exit id =>
        simp only at h
        split at h
        · rename_i k' hk; simp at h; obtain ⟨rfl, rfl⟩ := h
          exact wpIn_exit (denE_exit hk (g a w f s))
        · simp at h
      | loop x => simp at h
      | rangeFunc x y z u => simp at h
      | scope x => simp at h
      | goto l => simp at h
      | refuse y => simp at h
  | .o p i :: k, h =>
    simp only [adv1] at h
    split at h
    · rename_i ho; simp at h; obtain ⟨rfl, rfl⟩ := h
      have hsz : (opsAt c0 p).size ≤ i := by simpa using Array.getElem?_eq_none_iff.1 ho
      simp only [denE, Nat.sub_eq_zero_of_le hsz, List.range'_zero, wpOpsIn]
      exact g a w f s
    · rename_i o ho
      obtain ⟨hi, ho'⟩ := Array.getElem?_eq_some_iff.1 ho
      have hr : List.range' i ((opsAt c0 p).size - i) = i :: List.range' (i + 1) ((opsAt c0 p).size - (i + 1)) := by
        rw [show (opsAt c0 p).size - i = ((opsAt c0 p).size - (i + 1)) + 1 by omega, List.range'_succ]
      simp only [denE]
      rw [hr]
      split at h
      · simp at h
      · rename_i hd
        split at h
        · rename_i hw; simp at h; obtain ⟨rfl, rfl⟩ := h
          refine wpOpsIn_cons' _ _ _ _ ho false (wantE_ok f hw) ?_
          simpa [denE] using g _ w (f.put hd undef) s
        · rename_i hw
          split at h
          · rename_i v hv; simp at h; obtain ⟨rfl, rfl⟩ := h
            refine wpOpsIn_cons' _ _ _ _ ho true (wantE_ok f hw) ?_
            refine wpIn_val (pureOp_nodefer hv) (pureOp_run f hv w) ?_
            simpa [denE] using g _ w (f.put hd v) s
          · simp at h
        · simp at h

def advN (P : Program) (c0 : Code) (n : Fm) : Nat → List It → Slots → Option (List It × Slots)
  | 0, todo, env => some (todo, env)
  | f + 1, todo, env => match adv1 P c0 n env todo with
    | none => none
    | some (todo', env') => advN P c0 n f todo' env'

theorem advN_sound : ∀ {m : Nat} {todo todo' : List It} {env env' : Slots}, advN P c0 n m todo env = some (todo', env') → G P c0 fin E n todo' env' L → G P c0 fin E n todo env L := by
  intro m
  induction m with
  | zero => intro t t' e e' h g; simp [advN] at h; obtain ⟨rfl, rfl⟩ := h; exact g
  | succ m ih =>
    intro t t' e e' h g
    simp only [advN] at h
    split at h
    · simp at h
    · rename_i t1 e1 h1
      exact adv1_sound h1 (ih h g)

/-- The kernel walks m moves; what is kept of the slots. (The ways ahead: new ones ahead of what stays of the old.) -/
theorem g_adv (m : Nat) (pre : List It) (dr : Nat) (env' : Slots)
    (h : (match advN P c0 n m todo env with | none => none | some c => some (c.1, env'.map fun p => look c.2 p.1)) = some (pre ++ todo.drop dr, env'.map fun p => some p.2))
    (g : G P c0 fin E n (pre ++ todo.drop dr) env' L) : G P c0 fin E n todo env L := by
  split at h
  · simp at h
  · rename_i c hc
    simp only [Option.some.injEq, Prod.mk.injEq] at h
    obtain ⟨h1, h2⟩ := h
    refine advN_sound (todo' := c.1) (env' := c.2) hc ?_
    intro a w f s
    rw [h1]
    exact g a w (f.less (by simpa using h2)) s

/-- A test that is not decided. -/
theorem g_cond {p : Nat} (b : Bool) (h : (match codeAt c0 (p + 1) with | some (.cond x _ _) => evalE env x | _ => none) = some (.bool b))
    (gt : b = true → G P c0 fin E n (.c (2 * (p + 1)) :: k) env L) (gf : b = false → G P c0 fin E n (.c (2 * (p + 1) + 1) :: k) env L) :
    G P c0 fin E n (.c (p + 1) :: k) env L := by
  split at h
  · rename_i x y z hc
    cases b with
    | true => exact adv1_sound (todo' := .c (2 * (p + 1)) :: k) (env' := env) (by simp [adv1, advC, hc, h]) (gt rfl)
    | false => exact adv1_sound (todo' := .c (2 * (p + 1) + 1) :: k) (env' := env) (by simp [adv1, advC, hc, h]) (gf rfl)
  · simp at h

end Go.Sl
