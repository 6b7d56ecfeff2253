/- Inside a region that draws: the moves between assertions; one effect, two effects; evidence by another name. -/
import Derived.Test.YtkhkdedngnneiaaGreatSlMore
namespace Go.Sl

variable {n : Fm} {a : Act} {env env' : Slots} {P : Program} {c0 : Code} {fin : Act → World → Prop} {w : World}
variable {E : Env} {L L' : List Chunk} {todo todo' k : List It} {o : Oper} {p : Nat} {fx : List Nat} {K : Vals}

theorem DR.of (h : ∀ w, sat E w L → ∃ L', DR P c0 fin E n p k fx K env L' ∧ sat E w L') : DR P c0 fin E n p k fx K env L := by
  intro a w fuel listed I s
  obtain ⟨L', d, s'⟩ := h w s
  exact d a w fuel listed I s'

theorem g_sp (ci : Nat) (X X' : SP) (h : chunkAt L ci = some (.sp X)) (e : X = X') (g : G P c0 fin E n todo env (L.set ci (.sp X'))) : G P c0 fin E n todo env L := by
  subst e
  have : L.set ci (.sp X) = L := by
    obtain ⟨hil, hc⟩ := List.getElem?_eq_some_iff.1 h
    rw [← hc, List.set_getElem_self]
  rw [this] at g; exact g

theorem d_perm (is : List Nat) (A : List Chunk) (h : takeOf is L = some A) (g : DR P c0 fin E n p k fx K env (A ++ restOf is L)) : DR P c0 fin E n p k fx K env L :=
  .of fun _ s => ⟨_, g, sat_takeOf h s⟩
theorem d_open {α : Type} (ci : Nat) (F : α → List Chunk) (h : chunkAt L ci = some (.sp (ex F))) (g : ∀ x, DR P c0 fin E n p k fx K env (F x ++ L.eraseIdx ci)) : DR P c0 fin E n p k fx K env L :=
  .of fun _ s => let ⟨x, s'⟩ := (sat_front h s).open; ⟨_, g x, s'⟩
theorem d_close {α : Type} (F : α → List Chunk) (x : α) (is : List Nat) (h : takeOf is L = some (F x)) (g : DR P c0 fin E n p k fx K env (.sp (ex F) :: restOf is L)) : DR P c0 fin E n p k fx K env L :=
  .of fun _ s => ⟨_, g, sat.close x (sat_takeOf h s)⟩
theorem d_prp (ci : Nat) (q : Prop) (h : chunkAt L ci = some (.prp q)) (g : q → DR P c0 fin E n p k fx K env (L.eraseIdx ci)) : DR P c0 fin E n p k fx K env L :=
  .of fun _ s => let s' := sat_front h s; ⟨_, g s'.head_prp, s'.tail⟩
theorem d_add {q : Prop} (hp : q) (g : DR P c0 fin E n p k fx K env (.prp q :: L)) : DR P c0 fin E n p k fx K env L := .of fun _ s => ⟨_, g, s.add_prp hp⟩
theorem d_sp (ci : Nat) (X X' : SP) (h : chunkAt L ci = some (.sp X)) (e : X = X') (g : DR P c0 fin E n p k fx K env (L.set ci (.sp X'))) : DR P c0 fin E n p k fx K env L := by
  subst e
  have : L.set ci (.sp X) = L := by
    obtain ⟨hil, hc⟩ := List.getElem?_eq_some_iff.1 h
    rw [← hc, List.set_getElem_self]
  rw [this] at g; exact g
theorem d_some {α : Type} {sz : Nat} {enc : α → List Value} {ad : Option Addr} {l : List α} {X : SP} (ci : Nat) (r : Reads X sz enc ad l) (h : chunkAt L ci = some (.sp X)) (hl : 0 < l.length)
    (g : ∀ b off, ad = some ⟨b, off, none⟩ → DR P c0 fin E n p k fx K env L) : DR P c0 fin E n p k fx K env L :=
  .of fun w s => by
    obtain ⟨m, hm, hx⟩ := sat_sp h s
    obtain ⟨hk, e2 | ⟨b', pre, post, T, fz, e, hb⟩⟩ := r m hx
    · subst e2; simp at hl
    · exact ⟨L, g b' pre.length e, s⟩
theorem d_nil {α : Type} (T sz : Nat) (enc : α → List Value) (hk : ∀ x, (enc x).length = sz) (g : DR P c0 fin E n p k fx K env (.sp (Sl T sz enc none 0 []) :: L)) : DR P c0 fin E n p k fx K env L :=
  .of fun _ s => ⟨_, g, s.imp fun h d => ⟨hempty, h, Dj.empty_left h, (hu_empty_left h).symm, ⟨hk, Nat.le_refl _, .inl ⟨rfl, rfl⟩⟩, d⟩⟩
theorem d_lit {α : Type} (ci : Nat) (b : Nat) (C : Array Value) (T sz : Nat) (enc : α → List Value) (hk : ∀ x, (enc x).length = sz) (l : List α) (h : chunkAt L ci = some (.obj b (.cells C T (0, 0)))) (hc : C.toList = l.flatMap enc)
    (g : DR P c0 fin E n p k fx K env (L.set ci (.sp (Sl T sz enc (some ⟨b, 0, none⟩) l.length l)))) : DR P c0 fin E n p k fx K env L :=
  .of fun _ s => ⟨_, g, sat_back h ((sat_front h s).imp fun _ d => star_mono (sl_lit hk l hc) (fun _ h => h) d)⟩

theorem Evs.plainN {ops : Array Oper} {R : Vals} (m : Nat) (h : ((R.take m).map fun e => pureW P ops env K e.1) = (R.take m).map fun e => some e.2) (t : Evs P E n ops env L K fx (R.drop m)) : Evs P E n ops env L K fx R := by
  have := Evs.plain (R.take m) h t
  rwa [List.take_append_drop] at this

theorem evOK_eq {ops : Array Oper} {i : Nat} {v v' : Value} (h : v = v') (e : EvOK P E n ops env L K i v) : EvOK P E n ops env L K i v' := h ▸ e

theorem evOK_at {p i : Nat} {v : Value}
    (h1 : (match (opsAt c0 p)[i]? with | some o => (match wantE (opsAt c0 p) (envD (opsAt c0 p).toList env K i) o, Sl.known (envD (opsAt c0 p).toList env K i) o with | some true, true => true | _, _ => false) | none => false) = true)
    (h : RunsTo P (envD (opsAt c0 p).toList env K i) (opAt c0 p i) v) : EvOK P E n (opsAt c0 p) env L K i v := by
  split at h1
  · rename_i o ho
    have : opAt c0 p i = o := by simp [opAt, ho]
    rw [this] at h
    exact evOK_val o ho h1 h
  · simp at h1

def fxK (c0 : Code) (p : Nat) (env : Slots) (K : Vals) (i : Nat) : Bool := match (opsAt c0 p)[i]? with
  | none => false
  | some o => Sl.known (envD (opsAt c0 p).toList env K i) o && want1 (opsAt c0 p) (envD (opsAt c0 p).toList env K i) o

theorem d_run1 (newK : Vals) (e : Nat) (hc : chkRun n (opsAt c0 p).toList newK K [e] = true) (hv : Evs P E n (opsAt c0 p) env L (newK ++ K) fx (newK ++ K)) (hf : fxK c0 p env (newK ++ K) e = true)
    (ot : OT P E (opAt c0 p e) (envD (opsAt c0 p).toList env (newK ++ K) e) L (fun v L' => DR P c0 fin E n p k (e :: fx) ((e, v) :: (newK ++ K)) env L')) : DR P c0 fin E n p k fx K env L := by
  refine d_run newK [e] hc rfl hv fun i hi o ho => ?_
  have hi : i = e := by simpa using hi
  subst hi
  have : opAt c0 p i = o := by simp [opAt, ho]
  rw [this] at ot
  exact ⟨by simpa [fxK, ho] using hf, ot⟩

theorem d_run2 (newK : Vals) (e e' : Nat) (hc : chkRun n (opsAt c0 p).toList newK K [e, e'] = true) (hv : Evs P E n (opsAt c0 p) env L (newK ++ K) fx (newK ++ K)) (hf : fxK c0 p env (newK ++ K) e = true) (hf' : fxK c0 p env (newK ++ K) e' = true)
    (ot : OT P E (opAt c0 p e) (envD (opsAt c0 p).toList env (newK ++ K) e) L (fun v L' => DR P c0 fin E n p k (e :: fx) ((e, v) :: (newK ++ K)) env L'))
    (ot' : OT P E (opAt c0 p e') (envD (opsAt c0 p).toList env (newK ++ K) e') L (fun v L' => DR P c0 fin E n p k (e' :: fx) ((e', v) :: (newK ++ K)) env L')) : DR P c0 fin E n p k fx K env L := by
  refine d_run newK [e, e'] hc rfl hv fun i hi o ho => ?_
  have hi : i = e ∨ i = e' := by simpa using hi
  rcases hi with rfl | rfl
  · have : opAt c0 p i = o := by simp [opAt, ho]
    rw [this] at ot
    exact ⟨by simpa [fxK, ho] using hf, ot⟩
  · have : opAt c0 p i = o := by simp [opAt, ho]
    rw [this] at ot'
    exact ⟨by simpa [fxK, ho] using hf', ot'⟩

end Go.Sl
