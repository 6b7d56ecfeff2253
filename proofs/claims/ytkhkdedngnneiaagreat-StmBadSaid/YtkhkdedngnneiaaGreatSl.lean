/- A small separation logic over the blocks of a world: assertions, entailments, how a world satisfies a list of chunks. -/
import Derived.Orders
import Derived.KernelRfl
namespace Go.Sl

abbrev HM := Nat → Option Obj
abbrev SP := HM → Prop

/-- What of a world never turns. -/
structure Env where
  os : Os
  tape : Nat → Question → Nat
  output : Array (Nat × ByteArray)

/-- A piece of memory: a block known whole; a plain fact; a predicate. -/
inductive Chunk where
  | obj (b : Nat) (o : Obj)
  | prp (p : Prop)
  | sp (P : SP)

def hempty : HM := fun _ => none
def hone (b : Nat) (o : Obj) : HM := fun c => if c = b then some o else none
def hu (h k : HM) : HM := fun b => (h b).or (k b)
def Dj (h k : HM) : Prop := ∀ b, h b = none ∨ k b = none

theorem hu_empty_left (h : HM) : hu hempty h = h := by funext b; simp [hu, hempty]
theorem hu_empty_right (h : HM) : hu h hempty = h := by funext b; simp [hu, hempty]
theorem Dj.symm {h k : HM} (d : Dj h k) : Dj k h := fun b => (d b).symm
theorem Dj.empty_left (h : HM) : Dj hempty h := fun _ => .inl rfl
theorem Dj.empty_right (h : HM) : Dj h hempty := fun _ => .inr rfl
theorem hu_comm {h k : HM} (d : Dj h k) : hu h k = hu k h := by
  funext b
  rcases d b with e | e <;> simp [hu, e]
theorem hu_assoc (a b c : HM) : hu (hu a b) c = hu a (hu b c) := by funext x; simp [hu, Option.or_assoc]
theorem dj_hu_left {a b c : HM} : Dj (hu a b) c ↔ Dj a c ∧ Dj b c := by
  constructor
  · intro d
    refine ⟨fun x => ?_, fun x => ?_⟩ <;> rcases d x with e | e
    · left; simp [hu] at e; exact e.1
    · right; exact e
    · left; simp [hu] at e; exact e.2
    · right; exact e
  · rintro ⟨d, e⟩ x
    rcases d x with p | p
    · rcases e x with q | q
      · left; simp [hu, p, q]
      · right; exact q
    · right; exact p
theorem dj_hu_right {a b c : HM} : Dj a (hu b c) ↔ Dj a b ∧ Dj a c :=
  ⟨fun d => let ⟨p, q⟩ := dj_hu_left.1 d.symm; ⟨p.symm, q.symm⟩, fun ⟨p, q⟩ => (dj_hu_left.2 ⟨p.symm, q.symm⟩).symm⟩

def star (P Q : SP) : SP := fun h => ∃ h1 h2, Dj h1 h2 ∧ h = hu h1 h2 ∧ P h1 ∧ Q h2

theorem star_comm {P Q : SP} {h : HM} (s : star P Q h) : star Q P h := by
  obtain ⟨a, b, d, rfl, p, q⟩ := s
  exact ⟨b, a, d.symm, hu_comm d, q, p⟩
theorem star_assoc {P Q R : SP} {h : HM} (s : star (star P Q) R h) : star P (star Q R) h := by
  obtain ⟨a, b, d, rfl, ⟨x, y, e, rfl, p, q⟩, r⟩ := s
  obtain ⟨d1, d2⟩ := dj_hu_left.1 d
  exact ⟨x, hu y b, dj_hu_right.2 ⟨e, d1⟩, hu_assoc _ _ _, p, y, b, d2, rfl, q, r⟩
theorem star_assoc' {P Q R : SP} {h : HM} (s : star P (star Q R) h) : star (star P Q) R h := by
  obtain ⟨a, b, d, rfl, p, x, y, e, rfl, q, r⟩ := s
  obtain ⟨d1, d2⟩ := dj_hu_right.1 d
  exact ⟨hu a x, y, dj_hu_left.2 ⟨d2, e⟩, (hu_assoc _ _ _).symm, ⟨a, x, d1, rfl, p, q⟩, r⟩
theorem star_mono {P P' Q Q' : SP} (hp : ∀ h, P h → P' h) (hq : ∀ h, Q h → Q' h) {h : HM} (s : star P Q h) : star P' Q' h := by
  obtain ⟨a, b, d, rfl, p, q⟩ := s
  exact ⟨a, b, d, rfl, hp _ p, hq _ q⟩

def Chunk.den : Chunk → SP
  | .obj b o => fun h => h = hone b o
  | .prp p => fun h => p ∧ h = hempty
  | .sp P => P

def dens : List Chunk → SP
  | [] => fun h => h = hempty
  | c :: l => star c.den (dens l)

theorem dens_perm {l m : List Chunk} (p : l.Perm m) : ∀ h, dens l h → dens m h := by
  induction p with
  | nil => exact fun _ h => h
  | cons x _ ih => exact fun h s => star_mono (fun _ h => h) ih s
  | swap x y l =>
    intro h s
    have s1 := star_assoc' s
    exact star_assoc (star_mono (fun _ t => star_comm t) (fun _ h => h) s1)
  | trans _ _ ih1 ih2 => exact fun h s => ih2 _ (ih1 _ s)

theorem dens_append {l m : List Chunk} : ∀ {h}, dens (l ++ m) h ↔ star (dens l) (dens m) h := by
  induction l with
  | nil =>
    intro h
    constructor
    · intro s; exact ⟨hempty, h, Dj.empty_left h, (hu_empty_left h).symm, rfl, s⟩
    · rintro ⟨a, b, _, rfl, rfl, q⟩; rw [hu_empty_left]; exact q
  | cons x l ih =>
    intro h
    constructor
    · intro s
      exact star_assoc' (star_mono (fun _ h => h) (fun _ t => ih.1 t) s)
    · intro s
      exact star_mono (fun _ h => h) (fun _ t => ih.2 t) (star_assoc s)

def hsub (h : HM) (w : World) : Prop := ∀ b o, h b = some o → w.heap[b]? = some o

/-- The world holds the chunks (and whatever else), and its streams are E's. -/
def sat (E : Env) (w : World) (L : List Chunk) : Prop :=
  w.os = E.os ∧ w.tape = E.tape ∧ w.output = E.output ∧ ∃ h, hsub h w ∧ dens L h

variable {E : Env} {w w' : World} {L M : List Chunk}

theorem sat.imp (s : sat E w L) (f : ∀ h, dens L h → dens M h) : sat E w M :=
  let ⟨a, b, c, h, k, d⟩ := s; ⟨a, b, c, h, k, f h d⟩
theorem sat.perm (s : sat E w L) (p : L.Perm M) : sat E w M := s.imp (dens_perm p)

theorem hsub_left {h k : HM} (s : hsub (hu h k) w) : hsub h w := fun b o e => s b o (by simp [hu, e])
theorem hsub_right {h k : HM} (d : Dj h k) (s : hsub (hu h k) w) : hsub k w := by rw [hu_comm d] at s; exact hsub_left s

theorem sat.tail {c : Chunk} (s : sat E w (c :: L)) : sat E w L := by
  obtain ⟨a, b, c, h, k, x, y, d, rfl, _, q⟩ := s
  exact ⟨a, b, c, y, hsub_right d k, q⟩
theorem sat.head_obj {b : Nat} {o : Obj} (s : sat E w (.obj b o :: L)) : w.heap[b]? = some o := by
  obtain ⟨_, _, _, h, k, x, y, d, rfl, rfl, q⟩ := s
  exact hsub_left k b o (by simp [hone])
theorem sat.head_prp {p : Prop} (s : sat E w (.prp p :: L)) : p := by
  obtain ⟨_, _, _, h, k, x, y, d, rfl, ⟨hp, _⟩, q⟩ := s
  exact hp
theorem sat.add_prp {p : Prop} (hp : p) (s : sat E w L) : sat E w (.prp p :: L) :=
  s.imp fun h d => ⟨hempty, h, Dj.empty_left h, (hu_empty_left h).symm, ⟨hp, rfl⟩, d⟩

/-- Another world with the same blocks. -/
theorem sat.world (s : sat E w L) (h1 : w'.os = w.os) (h2 : w'.tape = w.tape) (h3 : w'.output = w.output) (hh : ∀ (b : Nat) (o : Obj), w.heap[b]? = some o → w'.heap[b]? = some o) : sat E w' L := by
  obtain ⟨a, b, c, h, k, d⟩ := s
  exact ⟨h1.trans a, h2.trans b, h3.trans c, h, fun x o e => hh x o (k x o e), d⟩

/-- The first chunk's block turned. -/
theorem sat.turn {b : Nat} {o o' : Obj} (s : sat E w (.obj b o :: L)) (h1 : w'.os = w.os) (h2 : w'.tape = w.tape) (h3 : w'.output = w.output)
    (hb : w'.heap[b]? = some o') (hh : ∀ c, c ≠ b → w'.heap[c]? = w.heap[c]?) : sat E w' (.obj b o' :: L) := by
  obtain ⟨a, b', c, h, k, x, y, d, rfl, rfl, q⟩ := s
  have dn : y b = none := by
    rcases d b with e | e
    · simp [hone] at e
    · exact e
  refine ⟨h1.trans a, h2.trans b', h3.trans c, hu (hone b o') y, ?_, hone b o', y, ?_, rfl, rfl, q⟩
  · intro z u e
    by_cases hz : z = b
    · subst hz; simp [hu, hone] at e; rw [hb, e]
    · simp [hu, hone, hz] at e
      rw [hh z hz]
      exact k z u (by simp [hu, hone, hz, e])
  · intro z
    by_cases hz : z = b
    · subst hz; exact .inr dn
    · left; simp [hone, hz]

/-- A new block. -/
theorem sat.fresh {o : Obj} (s : sat E w L) (h1 : w'.os = w.os) (h2 : w'.tape = w.tape) (h3 : w'.output = w.output)
    (hb : w'.heap = w.heap.push o) : sat E w' (.obj w.heap.size o :: L) := by
  obtain ⟨a, b', c, h, k, q⟩ := s
  have dn : h w.heap.size = none := by
    cases e : h w.heap.size with
    | none => rfl
    | some u => have := k _ _ e; simp at this
  refine ⟨h1.trans a, h2.trans b', h3.trans c, hu (hone w.heap.size o) h, ?_, hone _ o, h, ?_, rfl, rfl, q⟩
  · intro z u e
    rw [hb, Array.getElem?_push]
    by_cases hz : z = w.heap.size
    · subst hz; simp [hu, hone] at e ⊢; exact e
    · simp [hu, hone, hz] at e
      rw [if_neg hz]
      exact k z u e
  · intro z
    by_cases hz : z = w.heap.size
    · subst hz; exact .inr dn
    · left; simp [hone, hz]

/-! Choosing chunks by their places. -/

/-- The chunks at these places (each counted in what is left), and what is left. -/
def takes {α : Type} : List Nat → List α → Option (List α × List α)
  | [], L => some ([], L)
  | i :: is, L => match L[i]? with
    | none => none
    | some c => match takes is (L.eraseIdx i) with
      | none => none
      | some (A, B) => some (c :: A, B)

theorem perm_eraseIdx {α : Type} : ∀ {L : List α} {i : Nat} (h : i < L.length), L.Perm (L[i] :: L.eraseIdx i)
  | x :: l, 0, _ => by simp
  | x :: l, i + 1, h => by
    have := (perm_eraseIdx (L := l) (i := i) (by simpa using h)).cons x
    simp only [List.getElem_cons_succ, List.eraseIdx_cons_succ]
    exact this.trans (.swap _ _ _)

theorem takes_perm {α : Type} : ∀ {is : List Nat} {L A B : List α}, takes is L = some (A, B) → L.Perm (A ++ B) := by
  intro is
  induction is with
  | nil => intro L A B h; simp [takes] at h; obtain ⟨rfl, rfl⟩ := h; simp
  | cons i is ih =>
    intro L A B h
    simp only [takes] at h
    split at h
    · simp at h
    · rename_i c hc
      split at h
      · simp at h
      · rename_i A' B' h'
        simp at h
        obtain ⟨rfl, rfl⟩ := h
        obtain ⟨hi, rfl⟩ := List.getElem?_eq_some_iff.1 hc
        exact (perm_eraseIdx hi).trans ((ih h').cons _)

/-- A predicate with an unknown. -/
def ex {α : Type} (F : α → List Chunk) : SP := fun h => ∃ x, dens (F x) h

theorem sat.open {α : Type} {F : α → List Chunk} (s : sat E w (.sp (ex F) :: L)) : ∃ x, sat E w (F x ++ L) := by
  obtain ⟨a, b, c, h, k, x, y, d, rfl, ⟨z, hz⟩, q⟩ := s
  exact ⟨z, a, b, c, _, k, dens_append.2 ⟨x, y, d, rfl, hz, q⟩⟩
theorem sat.close {α : Type} {F : α → List Chunk} (x : α) (s : sat E w (F x ++ L)) : sat E w (.sp (ex F) :: L) :=
  s.imp fun h d => by
    obtain ⟨a, b, e, rfl, p, q⟩ := dens_append.1 d
    exact ⟨a, b, e, rfl, ⟨x, p⟩, q⟩
/-- A list of chunks as one. -/
theorem sat.pack {A : List Chunk} (s : sat E w (A ++ L)) : sat E w (.sp (dens A) :: L) := s.imp fun _ d => dens_append.1 d
theorem sat.unpack {A : List Chunk} (s : sat E w (.sp (dens A) :: L)) : sat E w (A ++ L) := s.imp fun _ d => dens_append.2 d
theorem sat.frame {A : List Chunk} (s : sat E w (A ++ L)) : sat E w (A ++ [.sp (dens L)]) := by
  refine s.imp fun h d => ?_
  obtain ⟨a, b, e, rfl, p, q⟩ := dens_append.1 d
  exact dens_append.2 ⟨a, b, e, rfl, p, b, hempty, Dj.empty_right _, (hu_empty_right _).symm, q, rfl⟩
theorem sat.unframe {A : List Chunk} (s : sat E w (A ++ [.sp (dens L)])) : sat E w (A ++ L) := by
  refine s.imp fun h d => ?_
  obtain ⟨a, b, e, rfl, p, q⟩ := dens_append.1 d
  obtain ⟨x, y, f, rfl, r, rfl⟩ := q
  rw [hu_empty_right] at *
  exact dens_append.2 ⟨a, x, e, rfl, p, r⟩

end Go.Sl
