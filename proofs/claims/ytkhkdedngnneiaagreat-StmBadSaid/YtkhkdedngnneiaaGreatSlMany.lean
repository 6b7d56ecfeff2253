/- Many things of one kind, each at its key. -/
import Derived.Test.YtkhkdedngnneiaaGreatSlBuild
namespace Go.Sl

variable {n : Fm} {env : Slots} {P : Program} {c0 : Code} {fin : Act → World → Prop} {w : World}
variable {E : Env} {L L' : List Chunk} {todo k : List It}
variable {κ α : Type} {Q : κ → α → SP} {ps : List κ} {xs : List α} {p : κ} {x y : α} {i : Nat}

def manyL (Q : κ → α → SP) (ps : List κ) (xs : List α) : List Chunk := (ps.zip xs).map fun z => .sp (Q z.1 z.2)
def Many (Q : κ → α → SP) (ps : List κ) (xs : List α) : SP := fun h => ps.length = xs.length ∧ dens (manyL Q ps xs) h
/-- All but the one at i. -/
def ManyBut (Q : κ → α → SP) (ps : List κ) (xs : List α) (i : Nat) : SP := fun h => ps.length = xs.length ∧ dens ((manyL Q ps xs).eraseIdx i) h

theorem manyL_at (hp : ps[i]? = some p) (hx : xs[i]? = some x) : (manyL Q ps xs)[i]? = some (.sp (Q p x)) := by
  have h : (ps.zip xs)[i]? = some (p, x) := List.getElem?_zip_eq_some.2 ⟨hp, hx⟩
  rw [manyL, List.getElem?_map, h]; rfl

theorem manyL_set (i : Nat) (y : α) : (manyL Q ps (xs.set i y)).eraseIdx i = (manyL Q ps xs).eraseIdx i := by
  induction ps generalizing xs i with
  | nil => simp [manyL]
  | cons p ps ih =>
    cases xs with
    | nil => simp [manyL]
    | cons x xs =>
      cases i with
      | zero => simp [manyL]
      | succ i => simpa [manyL] using ih i (xs := xs)

theorem Many.out (hp : ps[i]? = some p) (hx : xs[i]? = some x) : ∀ h, Many Q ps xs h → star (Q p x) (ManyBut Q ps xs i) h := by
  rintro h ⟨hl, d⟩
  have ha := manyL_at (Q := Q) hp hx
  obtain ⟨hi, he⟩ := List.getElem?_eq_some_iff.1 ha
  obtain ⟨a, b, dj, rfl, u, v⟩ := dens_perm (perm_eraseIdx hi) _ d
  rw [he] at u
  exact ⟨a, b, dj, rfl, u, hl, v⟩

theorem Many.back (hp : ps[i]? = some p) (y : α) : ∀ h, star (Q p y) (ManyBut Q ps xs i) h → Many Q ps (xs.set i y) h := by
  rintro h ⟨a, b, dj, rfl, u, hl, v⟩
  have hi' : i < xs.length := by have := (List.getElem?_eq_some_iff.1 hp).1; omega
  have ha := manyL_at (Q := Q) hp (xs := xs.set i y) (x := y) (by simp [hi'])
  obtain ⟨hi, he⟩ := List.getElem?_eq_some_iff.1 ha
  refine ⟨by simpa using hl, dens_perm (perm_eraseIdx hi).symm _ ⟨a, b, dj, rfl, ?_, ?_⟩⟩
  · rw [he]; exact u
  · rw [manyL_set]; exact v

theorem set_same {l : List α} (h : l[i]? = some x) : l.set i x = l := by
  obtain ⟨hi, rfl⟩ := List.getElem?_eq_some_iff.1 h
  exact List.set_getElem_self hi

theorem Many.same (hp : ps[i]? = some p) (hx : xs[i]? = some x) : ∀ h, star (Q p x) (ManyBut Q ps xs i) h → Many Q ps xs h := fun h s => by
  have := Many.back (Q := Q) (xs := xs) hp x h s
  rwa [set_same hx] at this

theorem Many.snoc : ∀ h, star (Q p x) (Many Q ps xs) h → Many Q (ps ++ [p]) (xs ++ [x]) h := by
  rintro h ⟨a, b, dj, rfl, u, hl, v⟩
  refine ⟨by simp [hl], ?_⟩
  have e : manyL Q (ps ++ [p]) (xs ++ [x]) = manyL Q ps xs ++ [.sp (Q p x)] := by simp [manyL, List.zip_append hl]
  rw [e]
  refine dens_perm (l := .sp (Q p x) :: manyL Q ps xs) (List.perm_append_comm (l₁ := [_])) _ ⟨a, b, dj, rfl, u, v⟩

theorem sat_out {ci : Nat} (i : Nat) (h : chunkAt L ci = some (.sp (Many Q ps xs))) (hp : ps[i]? = some p) (hx : xs[i]? = some x) (s : sat E w L) :
    sat E w (.sp (Q p x) :: .sp (ManyBut Q ps xs i) :: L.eraseIdx ci) :=
  (sat_front h s).imp fun _ d => star_assoc (star_mono (Many.out hp hx) (fun _ h => h) d)
theorem sat_back' {is : List Nat} {i : Nat} (h : takeOf is L = some [.sp (Q p y), .sp (ManyBut Q ps xs i)]) (hp : ps[i]? = some p) (s : sat E w L) :
    sat E w (.sp (Many Q ps (xs.set i y)) :: restOf is L) :=
  (sat_takeOf h s).imp fun _ d => star_mono (Many.back hp y) (fun _ h => h) (star_assoc' d)
theorem sat_same {is : List Nat} {i : Nat} (h : takeOf is L = some [.sp (Q p x), .sp (ManyBut Q ps xs i)]) (hp : ps[i]? = some p) (hx : xs[i]? = some x) (s : sat E w L) :
    sat E w (.sp (Many Q ps xs) :: restOf is L) :=
  (sat_takeOf h s).imp fun _ d => star_mono (Many.same hp hx) (fun _ h => h) (star_assoc' d)
theorem sat_snoc {is : List Nat} (h : takeOf is L = some [.sp (Q p x), .sp (Many Q ps xs)]) (s : sat E w L) :
    sat E w (.sp (Many Q (ps ++ [p]) (xs ++ [x])) :: restOf is L) :=
  (sat_takeOf h s).imp fun _ d => star_mono Many.snoc (fun _ h => h) (star_assoc' d)
theorem sat_many0 (Q : κ → α → SP) (s : sat E w L) : sat E w (.sp (Many Q [] []) :: L) :=
  s.imp fun h d => ⟨hempty, h, Dj.empty_left h, (hu_empty_left h).symm, ⟨rfl, rfl⟩, d⟩
theorem sat_manyLen {ci : Nat} (h : chunkAt L ci = some (.sp (Many Q ps xs))) (s : sat E w L) : ps.length = xs.length := by
  obtain ⟨_, _, _, k, hk, x, y, d, rfl, hx, q⟩ := sat_front h s
  exact hx.1

/-! The same in a walk, and where an order is drawn. -/
variable {pp : Nat} {fx : List Nat} {K : Vals}
theorem d_imp (h : ∀ w, sat E w L → sat E w L') (g : DR P c0 fin E n pp k fx K env L') : DR P c0 fin E n pp k fx K env L := .of fun w s => ⟨L', g, h w s⟩
theorem g_out (ci i : Nat) (h : chunkAt L ci = some (.sp (Many Q ps xs))) (hp : ps[i]? = some p) (hx : xs[i]? = some x)
    (g : G P c0 fin E n todo env (.sp (Q p x) :: .sp (ManyBut Q ps xs i) :: L.eraseIdx ci)) : G P c0 fin E n todo env L := g_imp (fun _ => sat_out i h hp hx) g
theorem d_out (ci i : Nat) (h : chunkAt L ci = some (.sp (Many Q ps xs))) (hp : ps[i]? = some p) (hx : xs[i]? = some x)
    (g : DR P c0 fin E n pp k fx K env (.sp (Q p x) :: .sp (ManyBut Q ps xs i) :: L.eraseIdx ci)) : DR P c0 fin E n pp k fx K env L := d_imp (fun _ => sat_out i h hp hx) g
theorem g_back (Q : κ → α → SP) (ps : List κ) (xs : List α) (p : κ) (y : α) (i : Nat) (is : List Nat) (h : takeOf is L = some [.sp (Q p y), .sp (ManyBut Q ps xs i)]) (hp : ps[i]? = some p)
    (g : G P c0 fin E n todo env (.sp (Many Q ps (xs.set i y)) :: restOf is L)) : G P c0 fin E n todo env L := g_imp (fun _ => sat_back' h hp) g
theorem d_back (Q : κ → α → SP) (ps : List κ) (xs : List α) (p : κ) (y : α) (i : Nat) (is : List Nat) (h : takeOf is L = some [.sp (Q p y), .sp (ManyBut Q ps xs i)]) (hp : ps[i]? = some p)
    (g : DR P c0 fin E n pp k fx K env (.sp (Many Q ps (xs.set i y)) :: restOf is L)) : DR P c0 fin E n pp k fx K env L := d_imp (fun _ => sat_back' h hp) g
theorem g_same (Q : κ → α → SP) (ps : List κ) (xs : List α) (p : κ) (x : α) (i : Nat) (is : List Nat) (h : takeOf is L = some [.sp (Q p x), .sp (ManyBut Q ps xs i)]) (hp : ps[i]? = some p) (hx : xs[i]? = some x)
    (g : G P c0 fin E n todo env (.sp (Many Q ps xs) :: restOf is L)) : G P c0 fin E n todo env L := g_imp (fun _ => sat_same h hp hx) g
theorem d_same (Q : κ → α → SP) (ps : List κ) (xs : List α) (p : κ) (x : α) (i : Nat) (is : List Nat) (h : takeOf is L = some [.sp (Q p x), .sp (ManyBut Q ps xs i)]) (hp : ps[i]? = some p) (hx : xs[i]? = some x)
    (g : DR P c0 fin E n pp k fx K env (.sp (Many Q ps xs) :: restOf is L)) : DR P c0 fin E n pp k fx K env L := d_imp (fun _ => sat_same h hp hx) g
theorem g_snoc (Q : κ → α → SP) (ps : List κ) (xs : List α) (p : κ) (x : α) (is : List Nat) (h : takeOf is L = some [.sp (Q p x), .sp (Many Q ps xs)])
    (g : G P c0 fin E n todo env (.sp (Many Q (ps ++ [p]) (xs ++ [x])) :: restOf is L)) : G P c0 fin E n todo env L := g_imp (fun _ => sat_snoc h) g
theorem d_snoc (Q : κ → α → SP) (ps : List κ) (xs : List α) (p : κ) (x : α) (is : List Nat) (h : takeOf is L = some [.sp (Q p x), .sp (Many Q ps xs)])
    (g : DR P c0 fin E n pp k fx K env (.sp (Many Q (ps ++ [p]) (xs ++ [x])) :: restOf is L)) : DR P c0 fin E n pp k fx K env L := d_imp (fun _ => sat_snoc h) g
theorem g_many0 (Q : κ → α → SP) (g : G P c0 fin E n todo env (.sp (Many Q [] []) :: L)) : G P c0 fin E n todo env L := g_imp (fun _ => sat_many0 Q) g
theorem d_many0 (Q : κ → α → SP) (g : DR P c0 fin E n pp k fx K env (.sp (Many Q [] []) :: L)) : DR P c0 fin E n pp k fx K env L := d_imp (fun _ => sat_many0 Q) g
theorem g_manyLen (ci : Nat) (h : chunkAt L ci = some (.sp (Many Q ps xs))) (g : ps.length = xs.length → G P c0 fin E n todo env L) : G P c0 fin E n todo env L :=
  fun a w f s => g (sat_manyLen h s) a w f s
theorem d_manyLen (ci : Nat) (h : chunkAt L ci = some (.sp (Many Q ps xs))) (g : ps.length = xs.length → DR P c0 fin E n pp k fx K env L) : DR P c0 fin E n pp k fx K env L :=
  .of fun _ s => ⟨L, g (sat_manyLen h s), s⟩
theorem d_cap {T sz : Nat} {enc : α → List Value} {ad : Option Addr} {cap : Nat} {l : List α} (ci : Nat) (h : chunkAt L ci = some (.sp (Sl T sz enc ad cap l))) (g : l.length ≤ cap → DR P c0 fin E n pp k fx K env L) : DR P c0 fin E n pp k fx K env L :=
  .of fun _ s => ⟨L, g (by obtain ⟨_, _, _, k, hk, x, y, d, rfl, ⟨_, hx, _⟩, q⟩ := sat_front h s; exact hx), s⟩

/-- What had to come ahead of what has come has come. -/
def chkPast (ops : List Oper) (fx add : List Nat) : Bool := add.all fun i => fx.any fun e => match ops[e]? with
  | some o => hasN i (preds o)
  | none => false
theorem d_done (add : List Nat) (h : chkPast (opsAt c0 pp).toList fx add = true) (g : DR P c0 fin E n pp k (add ++ fx) K env L) : DR P c0 fin E n pp k fx K env L := by
  intro a w fuel listed I s
  refine g a w fuel listed ⟨I.size, I.count, I.closed, I.keys, ?_, I.tmps, I.defers, I.env, I.vals⟩ s
  intro i hi
  rcases List.mem_append.1 hi with hi | hi
  · obtain ⟨e, he, h2⟩ := List.any_eq_true.1 (List.all_eq_true.1 h i hi)
    split at h2
    · rename_i o ho
      exact I.closed e o ho (I.done e he) i (hasN_iff.1 h2)
    · simp at h2
  · exact I.done i hi

/-- A block's cells by another name. -/
theorem g_cells (ci b : Nat) (C C' : Array Value) (T : Nat) (h : chunkAt L ci = some (.obj b (.cells C T (0, 0)))) (e : C = C') (g : G P c0 fin E n todo env (L.set ci (.obj b (.cells C' T (0, 0))))) : G P c0 fin E n todo env L := by
  subst e
  have : L.set ci (.obj b (.cells C T (0, 0))) = L := by
    obtain ⟨hil, hc⟩ := List.getElem?_eq_some_iff.1 h
    rw [← hc, List.set_getElem_self]
  rw [this] at g; exact g
theorem d_cells (ci b : Nat) (C C' : Array Value) (T : Nat) (h : chunkAt L ci = some (.obj b (.cells C T (0, 0)))) (e : C = C') (g : DR P c0 fin E n pp k fx K env (L.set ci (.obj b (.cells C' T (0, 0))))) : DR P c0 fin E n pp k fx K env L := by
  subst e
  have : L.set ci (.obj b (.cells C T (0, 0))) = L := by
    obtain ⟨hil, hc⟩ := List.getElem?_eq_some_iff.1 h
    rw [← hc, List.set_getElem_self]
  rw [this] at g; exact g

/-- A literal of nothing. -/
def lit0E (P : Program) (o : Oper) : Option Nat := match o.op with
  | .buildSlice t 0 parts => match parts.toList, pureS P (underlying t) with
    | [], some (.slice e) => match pureS P (sizeOf e) with
      | some _ => some e
      | none => none
    | _, _ => none
  | _ => none
theorem ot_lit0 {K : Value → List Chunk → Prop} {o : Oper} (e : TypeId) (h1 : lit0E P o = some e)
    (g : ∀ b, K (.slice (some ⟨b, 0, none⟩) 0 0) (.obj b (.cells #[] e (0, 0)) :: L)) : OT P E o env L K := by
  refine ot_run fun w s => ⟨_, _, _, ?_, g w.heap.size, fresh_alloc s⟩
  unfold lit0E at h1
  split at h1
  · rename_i t parts ho
    split at h1
    · rename_i e' hp hu
      split at h1
      · rename_i sz hsz
        simp at h1; subst h1
        have hp' : parts = #[] := by apply Array.ext'; simpa using hp
        simp [execOp, ho, hp', Instr.buildSlice, pureS_run hu, pureS_run hsz, Instr.fill, newRow, show Array.range 0 = #[] from rfl]
      · simp at h1
    · simp at h1
  · simp at h1
/-- A nil slice that can be read is of nothing. -/
theorem g_rnil {sz : Nat} {enc : α → List Value} {l : List α} {X : SP} (ci : Nat) (r : Reads X sz enc none l) (h : chunkAt L ci = some (.sp X)) (g : l = [] → G P c0 fin E n todo env L) : G P c0 fin E n todo env L := by
  intro a w f s
  obtain ⟨m, hm, hx⟩ := sat_sp h s
  obtain ⟨hk, e2 | ⟨b', pre, post, T, fz, e, hb⟩⟩ := r m hx
  · exact g e2 a w f s
  · simp at e

/-! Maps whose keys are numbers. -/
/-- The entries, in the order in which they came. -/
structure MapRep {β : Type} (encV : β → Value) (es : Array MapEntry) (clock : Nat) (m : List (Int × β)) : Prop where
  same : es.toList.map (fun e => (e.key, e.val)) = m.map fun x => (.int .i64 x.1, encV x.2)
  born : ∀ e ∈ es.toList, e.born < clock
  once : (es.toList.map (·.born)).Nodup
  keys : (m.map (·.1)).Nodup
def MapP {β : Type} (b : Nat) (encV : β → Value) (m : List (Int × β)) : SP := ex fun (x : Array MapEntry × Nat) => [.prp (MapRep encV x.1 x.2 m), .obj b (.map x.1 x.2)]
theorem mapRep0 {β : Type} (encV : β → Value) : MapRep encV #[] 0 ([] : List (Int × β)) := ⟨rfl, by simp, by simp, by simp⟩
theorem ot_mapP {K : Value → List Chunk → Prop} {β : Type} {o : Oper} (encV : β → Value) (h : (match o.op with | .makeMap _ none => true | _ => false) = true) (g : ∀ b, K (.map (some b)) (.sp (MapP b encV []) :: L)) : OT P E o env L K := by
  refine ot_run fun w s => ⟨.map (some w.heap.size), w.alloc (.map #[] 0), _, ?_, g w.heap.size, (sat.close (#[], 0) ((fresh_alloc (x := .map #[] 0) s).add_prp (mapRep0 encV)))⟩
  split at h
  · rename_i t ho
    simp [execOp, ho, Instr.makeMap]
  · simp at h
end Go.Sl
