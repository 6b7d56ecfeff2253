/- Slices: owned ones (with whatever room lies behind), ones that are only read. -/
import Derived.Test.YtkhkdedngnneiaaGreatSlDraw
import Derived.Laws.AppendOwn
import Derived.Laws.IdiomCopy
namespace Go.Sl

variable {n : Fm} {a : Act} {env env' : Slots} {P : Program} {c0 : Code} {fin : Act → World → Prop} {w : World}
variable {E : Env} {L L' : List Chunk} {todo todo' k : List It} {o : Oper}

section lists
variable {α : Type} {enc : α → List Value} {sz : Nat}

theorem flat_len (hk : ∀ x, (enc x).length = sz) : ∀ l : List α, (l.flatMap enc).length = l.length * sz
  | [] => by simp
  | x :: l => by simp [hk, flat_len hk l, Nat.add_mul]; omega

theorem flat_get (hk : ∀ x, (enc x).length = sz) : ∀ {l : List α} {i j : Nat} {x : α} {v : Value}, l[i]? = some x → (enc x)[j]? = some v → (l.flatMap enc)[i * sz + j]? = some v
  | [], i, j, x, v, h, _ => by simp at h
  | y :: l, 0, j, x, v, h, h2 => by
    simp at h; subst h
    have hj := (List.getElem?_eq_some_iff.1 h2).1
    simp only [List.flatMap_cons, Nat.zero_mul, Nat.zero_add]
    rw [List.getElem?_append_left hj]; exact h2
  | y :: l, i + 1, j, x, v, h, h2 => by
    have := flat_get hk (l := l) (i := i) (by simpa using h) h2
    simp only [List.flatMap_cons]
    rw [List.getElem?_append_right (by rw [hk, Nat.add_mul]; omega), hk]
    rw [show (i + 1) * sz + j - sz = i * sz + j by rw [Nat.add_mul]; omega]
    exact this

theorem flat_take (hk : ∀ x, (enc x).length = sz) (l : List α) (i : Nat) : (l.flatMap enc).take (i * sz) = (l.take i).flatMap enc := by
  induction l generalizing i with
  | nil => simp
  | cons x l ih =>
    cases i with
    | zero => simp
    | succ i =>
      simp only [List.flatMap_cons, List.take_succ_cons, List.take_append, hk]
      rw [show (i + 1) * sz - sz = i * sz by rw [Nat.add_mul]; omega, ih, List.take_of_length_le (by rw [hk, Nat.add_mul]; omega)]

theorem flat_drop (hk : ∀ x, (enc x).length = sz) (l : List α) (i : Nat) : (l.flatMap enc).drop (i * sz) = (l.drop i).flatMap enc := by
  induction l generalizing i with
  | nil => simp
  | cons x l ih =>
    cases i with
    | zero => simp
    | succ i =>
      simp only [List.flatMap_cons, List.drop_succ_cons, List.drop_append, hk]
      rw [show (i + 1) * sz - sz = i * sz by rw [Nat.add_mul]; omega, ih, List.drop_of_length_le (by rw [hk, Nat.add_mul]; omega)]
      simp

theorem flat_set (hk : ∀ x, (enc x).length = sz) (l : List α) (i : Nat) (y : α) (hi : i < l.length) :
    (l.flatMap enc).take (i * sz) ++ enc y ++ (l.flatMap enc).drop (i * sz + sz) = (l.set i y).flatMap enc := by
  rw [flat_take hk, show i * sz + sz = (i + 1) * sz by rw [Nat.add_mul]; omega, flat_drop hk, List.set_eq_take_append_cons_drop, if_pos hi]
  simp
end lists

/-- A slice that is ours alone: nil, or some cells of a block with room behind. -/
def Sl {α : Type} (T sz : Nat) (enc : α → List Value) (a : Option Addr) (cap : Nat) (l : List α) : SP := fun h =>
  (∀ x, (enc x).length = sz) ∧ l.length ≤ cap ∧
  ((cap = 0 ∧ h = hempty) ∨ ∃ (b : Nat) (pre post : List Value), a = some ⟨b, pre.length, none⟩ ∧ (cap - l.length) * sz ≤ post.length ∧
    h = hone b (.cells (pre ++ l.flatMap enc ++ post).toArray T (0, 0)))

/-- X lets the slice be read. -/
def Reads {α : Type} (X : SP) (sz : Nat) (enc : α → List Value) (a : Option Addr) (l : List α) : Prop := ∀ h, X h →
  (∀ x, (enc x).length = sz) ∧ (l = [] ∨ ∃ (b : Nat) (pre post : List Value) (T : Nat) (fz : Nat × Nat), a = some ⟨b, pre.length, none⟩ ∧
    h b = some (.cells (pre ++ l.flatMap enc ++ post).toArray T fz))

variable {α : Type} {T sz : Nat} {enc : α → List Value} {ad : Option Addr} {cap : Nat} {l : List α} {X : SP}

theorem Sl.reads : Reads (Sl T sz enc ad cap l) sz enc ad l := by
  rintro h ⟨hk, hl, h1⟩
  refine ⟨hk, ?_⟩
  rcases h1 with ⟨rfl, _⟩ | ⟨b, pre, post, rfl, _, rfl⟩
  · left; exact List.length_eq_zero_iff.1 (by omega)
  · right; exact ⟨b, pre, post, T, (0, 0), rfl, by simp [hone]⟩

theorem Reads.mono {Y : SP} (r : Reads X sz enc ad l) (h : ∀ k, Y k → X k) : Reads Y sz enc ad l := fun k hk => r k (h k hk)

theorem sat_sp {ci : Nat} (h : chunkAt L ci = some (.sp X)) (s : sat E w L) : ∃ k, hsub k w ∧ X k := by
  obtain ⟨_, _, _, k, hk, x, y, d, rfl, hx, q⟩ := sat_front h s
  exact ⟨x, hsub_left hk, hx⟩

theorem Reads.cell {ci b off i j : Nat} {x : α} {v : Value} (r : Reads X sz enc (some ⟨b, off, none⟩) l) (h : chunkAt L ci = some (.sp X)) (hi : l[i]? = some x) (hj : (enc x)[j]? = some v)
    (s : sat E w L) : w.cell? ⟨b, off + i * sz + j, none⟩ = some v := by
  obtain ⟨m, hm, hx⟩ := sat_sp h s
  obtain ⟨hk, e | ⟨b', pre, post, T, fz, e, hb⟩⟩ := r m hx
  · subst e; simp at hi
  · simp at e; obtain ⟨rfl, rfl⟩ := e
    have := flat_get hk hi hj
    have hlt := (List.getElem?_eq_some_iff.1 this).1
    have hc : (pre ++ l.flatMap enc ++ post)[pre.length + i * sz + j]? = some v := by
      rw [List.append_assoc, Nat.add_assoc, List.getElem?_append_right (by omega), Nat.add_sub_cancel_left, List.getElem?_append_left hlt]
      exact this
    simp only [World.cell?, hm _ _ hb]
    simpa using hc

/-- A slice with an element is somewhere. -/
theorem g_some (ci : Nat) (r : Reads X sz enc ad l) (h : chunkAt L ci = some (.sp X)) (hl : 0 < l.length)
    (g : ∀ b off, ad = some ⟨b, off, none⟩ → G P c0 fin E n todo env L) : G P c0 fin E n todo env L := by
  intro a w f s
  obtain ⟨m, hm, hx⟩ := sat_sp h s
  obtain ⟨hk, e2 | ⟨b', pre, post, T, fz, e, hb⟩⟩ := r m hx
  · subst e2; simp at hl
  · exact g b' pre.length e a w f s

/-- No slice at all is ours. -/
theorem g_nil (T sz : Nat) (enc : α → List Value) (hk : ∀ x, (enc x).length = sz) (g : G P c0 fin E n todo env (.sp (Sl T sz enc none 0 []) :: L)) : G P c0 fin E n todo env L :=
  fun a w f s => g a w f (s.imp fun h d => ⟨hempty, h, Dj.empty_left h, (hu_empty_left h).symm, ⟨hk, Nat.le_refl _, .inl ⟨rfl, rfl⟩⟩, d⟩)

/-- A literal's block as a slice. -/
theorem sl_lit {b : Nat} {C : Array Value} (hk : ∀ x, (enc x).length = sz) (l : List α) (hc : C.toList = l.flatMap enc) :
    ∀ h, (Chunk.obj b (.cells C T (0, 0))).den h → Sl T sz enc (some ⟨b, 0, none⟩) l.length l h := by
  rintro h rfl
  refine ⟨hk, Nat.le_refl _, .inr ⟨b, [], [], rfl, by simp, ?_⟩⟩
  simp [← hc]

theorem g_lit (ci : Nat) (b : Nat) (C : Array Value) (T sz : Nat) (enc : α → List Value) (hk : ∀ x, (enc x).length = sz) (l : List α) (h : chunkAt L ci = some (.obj b (.cells C T (0, 0)))) (hc : C.toList = l.flatMap enc)
    (g : G P c0 fin E n todo env (L.set ci (.sp (Sl T sz enc (some ⟨b, 0, none⟩) l.length l)))) : G P c0 fin E n todo env L :=
  fun a w f s => g a w f (sat_back h ((sat_front h s).imp fun _ d => star_mono (sl_lit hk l hc) (fun _ h => h) d))

/-! Operations that only reckon, under a condition. -/

def RunsTo (P : Program) (env : Slots) (o : Oper) (v : Value) : Prop := ∀ w, (execOp (evalD env) o).run P w = .ok (.value v) w

theorem ot_val {K : Value → List Chunk → Prop} (v : Value) (h : RunsTo P env o v) (g : K v L) : OT P E o env L K := ot_run fun w s => ⟨v, w, L, h w, g, s⟩

theorem evOK_val {K : Vals} {ops : Array Oper} {i : Nat} {v : Value} (o : Oper) (ho : ops[i]? = some o)
    (h1 : (match wantE ops (envD ops.toList env K i) o, known (envD ops.toList env K i) o with | some true, true => true | _, _ => false) = true)
    (h : RunsTo P (envD ops.toList env K i) o v) : EvOK P E n ops env L K i v := by
  intro o' ho' a w f s
  rw [ho] at ho'; simp at ho'; subst ho'
  split at h1
  · rename_i hw hk
    exact .inl ⟨wantE_ok f hw, by rw [known_exec f hk]; exact h w⟩
  · simp at h1

def ixE (P : Program) (env : Slots) (o : Oper) : Option (Value × Value × Nat) := match o.op with
  | .indexAddr t x ix => match evalE env x, evalE env ix, pureS P (underlying t) with
    | some v, some i, some (.slice e) => match pureS P (sizeOf e) with
      | some m => some (v, i, m)
      | none => none
    | _, _, _ => none
  | _ => none

theorem run_ix (b off len cap : Nat) (i : Int) (m : Nat) (h1 : ixE P env o = some (.slice (some ⟨b, off, none⟩) len cap, .int .i64 i, m)) (hi : 0 ≤ i) (hl : i < len) :
    RunsTo P env o (.pointer (some ⟨b, off + i.toNat * m, none⟩)) := by
  intro w
  unfold ixE at h1
  split at h1
  · rename_i t x ix ho
    split at h1
    · rename_i v iv e hx hix hu
      split at h1
      · rename_i m' hm
        simp at h1; obtain ⟨rfl, rfl, rfl⟩ := h1
        have e1 : evalD env x = .slice (some ⟨b, off, none⟩) len cap := by simp [evalD, hx]
        have e2 : evalD env ix = .int .i64 i := by simp [evalD, hix]
        simp [execOp, ho, e1, e2, Instr.indexAt, asIntOf, pureS_run hu, hi, hl, pureS_run hm, add_off]
      · simp at h1
    · simp at h1
  · simp at h1

def subA (a : Option Addr) (lo m cap : Nat) : Option Addr := if cap = lo then a else a.map (·.add (lo * m))

def slE (P : Program) (env : Slots) (o : Oper) : Option (Value × Option Value × Option Value × Nat) := match o.op with
  | .slice t x lo hi none => match evalE env x, pureS P (underlying t) with
    | some v, some (.slice e) => match pureS P (sizeOf e) with
      | some m => match lo.map (evalE env), hi.map (evalE env) with
        | none, none => some (v, none, none, m)
        | some (some l), none => some (v, some l, none, m)
        | none, some (some h) => some (v, none, some h, m)
        | some (some l), some (some h) => some (v, some l, some h, m)
        | _, _ => none
      | none => none
    | _, _ => none
  | _ => none

def loOf : Option Value → Option Int
  | none => some 0
  | some (.int .i64 i) => some i
  | _ => none
def hiOf (len : Nat) : Option Value → Option Int
  | none => some len
  | some (.int .i64 i) => some i
  | _ => none

theorem run_sl {ad : Option Addr} {len cap : Nat} {lo hi : Option Value} {i j : Int} {m : Nat} (h1 : slE P env o = some (.slice ad len cap, lo, hi, m)) (hlo : loOf lo = some i) (hhi : hiOf len hi = some j)
    (h0 : 0 ≤ i) (hij : i ≤ j) (hj : j ≤ cap) : RunsTo P env o (.slice (subA ad i.toNat m cap) (j.toNat - i.toNat) (cap - i.toNat)) := by
  intro w
  unfold slE at h1
  split at h1
  · rename_i t x lo' hi' ho
    split at h1
    · rename_i v e hx hu
      split at h1
      · rename_i m' hm
        have e1 : evalD env x = v := by simp [evalD, hx]
        have jj : 0 ≤ j := by omega
        split at h1
        · rename_i hl hh
          simp at h1; obtain ⟨rfl, rfl, rfl, rfl⟩ := h1
          simp at hl hh; subst hl; subst hh
          simp [loOf, hiOf] at hlo hhi; subst hlo; subst hhi
          simp [execOp, ho, e1, Instr.sliceAt, Instr.slice, Instr.sliceBounds, pureS_run hu, pureS_run hm, subA]
        · rename_i lv hl hh
          simp at h1; obtain ⟨rfl, rfl, rfl, rfl⟩ := h1
          simp at hh; subst hh
          cases lo' with
          | none => simp at hl
          | some lx =>
            simp at hl
            unfold loOf at hlo
            split at hlo
            · simp_all
            · rename_i i' he
              simp at he; subst he
              simp [hiOf] at hlo hhi; subst hlo; subst hhi
              have e2 : evalD env lx = .int .i64 i' := by simp [evalD, hl]
              simp [execOp, ho, e1, e2, Instr.sliceAt, Instr.slice, Instr.sliceBounds, Instr.sliceBound, asIntOf, pureS_run hu, pureS_run hm, subA, h0, hij]
            · simp at hlo
        · rename_i hv hl hh
          simp at h1; obtain ⟨rfl, rfl, rfl, rfl⟩ := h1
          simp at hl; subst hl
          cases hi' with
          | none => simp at hh
          | some hx' =>
            simp at hh
            unfold hiOf at hhi
            split at hhi
            · simp_all
            · rename_i i' he
              simp at he; subst he
              simp [loOf] at hlo hhi; subst hlo; subst hhi
              have e2 : evalD env hx' = .int .i64 i' := by simp [evalD, hh]
              simp [execOp, ho, e1, e2, Instr.sliceAt, Instr.slice, Instr.sliceBounds, Instr.sliceBound, asIntOf, pureS_run hu, pureS_run hm, subA, jj, hj]
            · simp at hhi
        · rename_i lv hv hl hh
          simp at h1; obtain ⟨rfl, rfl, rfl, rfl⟩ := h1
          cases lo' with
          | none => simp at hl
          | some lx =>
            cases hi' with
            | none => simp at hh
            | some hx' =>
              simp at hl hh
              unfold loOf at hlo
              unfold hiOf at hhi
              split at hlo
              · simp_all
              · rename_i i' he
                split at hhi
                · simp_all
                · rename_i j' he'
                  simp at he he'; subst he; subst he'
                  simp at hlo hhi; subst hlo; subst hhi
                  have e2 : evalD env lx = .int .i64 i' := by simp [evalD, hl]
                  have e3 : evalD env hx' = .int .i64 j' := by simp [evalD, hh]
                  have k1 : ¬ (max j' 0 < i') := by omega
                  simp [execOp, ho, e1, e2, e3, Instr.sliceAt, Instr.slice, Instr.sliceBounds, Instr.sliceBound, asIntOf, pureS_run hu, pureS_run hm, subA, jj, hj, h0, k1]
                · simp at hhi
              · simp at hlo
        · simp at h1
      · simp at h1
    · simp at h1
  · simp at h1


/-! Elements: loads and stores. -/

theorem ot_loadS {K : Value → List Chunk → Prop} (ci b off i j m : Nat) {x : α} (v : Value) (r : Reads X sz enc (some ⟨b, off, none⟩) l) (h : chunkAt L ci = some (.sp X))
    (h1 : ldA P env o = some (.pointer (some ⟨b, m, none⟩))) (hm : m = off + i * sz + j) (hi : l[i]? = some x) (hj : (enc x)[j]? = some v) (g : K v L) : OT P E o env L K :=
  ot_load_at _ v h1 (fun _ s => by rw [hm]; exact r.cell h hi hj s) g

theorem evOK_loadS {K : Vals} {ops : Array Oper} {q : Nat} (ci b off i j m : Nat) {x : α} (v : Value) (r : Reads X sz enc (some ⟨b, off, none⟩) l) (h : chunkAt L ci = some (.sp X))
    (h1 : (match ops[q]? with | some o => (match wantE ops (envD ops.toList env K q) o, known (envD ops.toList env K q) o with | some true, true => ldA P (envD ops.toList env K q) o | _, _ => none) | none => none) = some (.pointer (some ⟨b, m, none⟩)))
    (hm : m = off + i * sz + j) (hi : l[i]? = some x) (hj : (enc x)[j]? = some v) : EvOK P E n ops env L K q v :=
  evOK_load ⟨b, m, none⟩ h1 (fun _ s => by rw [hm]; exact r.cell h hi hj s)

theorem evOK_loadC {K : Vals} {ops : Array Oper} {q : Nat} (ci b off : Nat) (v : Value)
    (h1 : (match ops[q]? with | some o => (match wantE ops (envD ops.toList env K q) o, known (envD ops.toList env K q) o with | some true, true => ldA P (envD ops.toList env K q) o | _, _ => none) | none => none) = some (.pointer (some ⟨b, off, none⟩)))
    (h2 : cellOf L ci off = some (b, v)) : EvOK P E n ops env L K q v :=
  evOK_load ⟨b, off, none⟩ h1 (fun _ s => cellOf_cell h2 s)

theorem ot_loadSA {K : Value → List Chunk → Prop} (ci b off i m : Nat) {x : α} (r : Reads X sz enc (some ⟨b, off, none⟩) l) (h : chunkAt L ci = some (.sp X))
    (h1 : ldG P env o = some (.pointer (some ⟨b, m, none⟩), (enc x).length)) (hm : m = off + i * sz) (hi : l[i]? = some x) (g : K (.agg (enc x).toArray) L) : OT P E o env L K :=
  ot_loadA_at b m (enc x) h1 (fun w s j v hj => by rw [hm]; exact r.cell h hi hj s) g

theorem take_cat3 (pre mid post : List Value) (k : Nat) (hk : k ≤ mid.length) : (pre ++ mid ++ post).take (pre.length + k) = pre ++ mid.take k := by
  rw [List.append_assoc, List.take_append, List.take_append, Nat.add_sub_cancel_left, List.take_of_length_le (by omega : pre.length ≤ pre.length + k), show k - mid.length = 0 by omega]
  simp
theorem drop_cat3 (pre mid post : List Value) (k : Nat) (hk : k ≤ mid.length) : (pre ++ mid ++ post).drop (pre.length + k) = mid.drop k ++ post := by
  rw [List.append_assoc, List.drop_append, List.drop_append, Nat.add_sub_cancel_left, show k - mid.length = 0 by omega, List.drop_of_length_le (by omega : pre.length ≤ pre.length + k)]
  simp

/-- Cells of one element set. -/
theorem enc_put (hk : ∀ x, (enc x).length = sz) {l : List α} {i j : Nat} {x y : α} {vs : List Value} (hi : l[i]? = some x) (hj : j + vs.length ≤ sz)
    (hy : enc y = (enc x).take j ++ vs ++ (enc x).drop (j + vs.length)) (pre post : List Value) :
    (pre ++ l.flatMap enc ++ post).take (pre.length + i * sz + j) ++ vs ++ (pre ++ l.flatMap enc ++ post).drop (pre.length + i * sz + j + vs.length) = pre ++ (l.set i y).flatMap enc ++ post := by
  obtain ⟨hil, hx⟩ := List.getElem?_eq_some_iff.1 hi
  have hlen := flat_len hk l
  have hb : i * sz + sz ≤ l.length * sz := by
    have := Nat.mul_le_mul_right sz (show i + 1 ≤ l.length by omega)
    rw [Nat.add_mul] at this; omega
  rw [show pre.length + i * sz + j = pre.length + (i * sz + j) by omega, show pre.length + (i * sz + j) + vs.length = pre.length + (i * sz + j + vs.length) by omega]
  rw [take_cat3 _ _ _ _ (by omega), drop_cat3 _ _ _ _ (by omega), ← flat_set hk l i y hil, hy]
  have e : l.flatMap enc = (l.take i).flatMap enc ++ (enc x ++ (l.drop (i + 1)).flatMap enc) := by
    conv => lhs; rw [← List.take_append_drop i l, List.drop_eq_getElem_cons hil, hx]
    simp
  have l1 : ((l.take i).flatMap enc).length = i * sz := by rw [flat_len hk, List.length_take, Nat.min_eq_left (by omega)]
  have lx := hk x
  rw [e]
  have t1 : ∀ q, ((l.take i).flatMap enc ++ (enc x ++ (l.drop (i + 1)).flatMap enc)).take (i * sz + q) = (l.take i).flatMap enc ++ (enc x ++ (l.drop (i + 1)).flatMap enc).take q := by
    intro q; rw [← l1, List.take_append, List.take_of_length_le (by omega)]; simp
  have t2 : ∀ q, ((l.take i).flatMap enc ++ (enc x ++ (l.drop (i + 1)).flatMap enc)).drop (i * sz + q) = (enc x ++ (l.drop (i + 1)).flatMap enc).drop q := by
    intro q; rw [← l1, List.drop_append, List.drop_of_length_le (by omega)]; simp
  rw [t1 j, show i * sz + j + vs.length = i * sz + (j + vs.length) by omega, t2 (j + vs.length), t2 sz]
  have t3 := t1 0
  simp only [Nat.add_zero, List.take_zero, List.append_nil] at t3
  rw [t3, List.take_append, List.drop_append, List.drop_append, lx, show j - sz = 0 by omega, show j + vs.length - sz = 0 by omega, show sz - sz = 0 by omega, List.drop_of_length_le (by omega : (enc x).length ≤ sz)]
  simp

theorem ot_storeS {K : Value → List Chunk → Prop} (ci b off i j m : Nat) {x : α} (y : α) (vs : List Value) (h : chunkAt L ci = some (.sp (Sl T sz enc (some ⟨b, off, none⟩) cap l)))
    (h1 : stE P env o = some (.pointer (some ⟨b, m, none⟩), vs)) (hm : m = off + i * sz + j) (hi : l[i]? = some x) (hj : j + vs.length ≤ sz)
    (hy : enc y = (enc x).take j ++ vs ++ (enc x).drop (j + vs.length)) (h1s : vs.all oneB = true)
    (g : K undef (L.set ci (.sp (Sl T sz enc (some ⟨b, off, none⟩) cap (l.set i y))))) : OT P E o env L K := by
  refine ot_skip fun w s => ?_
  obtain ⟨a1, a2, a3, k, hk, hx, hy', d, rfl, ⟨hsz, hcap, hd⟩, q⟩ := sat_front h s
  rcases hd with ⟨e, _⟩ | ⟨b', pre, post, e, hpost, rfl⟩
  · have := (List.getElem?_eq_some_iff.1 hi).1; omega
  · simp at e; obtain ⟨rfl, rfl⟩ := e
    have s0 : sat E w (.obj b (.cells (pre ++ l.flatMap enc ++ post).toArray T (0, 0)) :: L.eraseIdx ci) := ⟨a1, a2, a3, _, hk, _, _, d, rfl, rfl, q⟩
    have hg := s0.head_obj
    have hil := (List.getElem?_eq_some_iff.1 hi).1
    have hb : i * sz + sz ≤ l.length * sz := by
      have := Nat.mul_le_mul_right sz (show i + 1 ≤ l.length by omega)
      rw [Nat.add_mul] at this; omega
    have hlen := flat_len hsz l
    have hfit : m + vs.length ≤ (pre ++ l.flatMap enc ++ post).toArray.size := by simp [hlen]; omega
    obtain ⟨f1, f2, f3, f4, f5⟩ := setRow_facts w b _ ((pre ++ l.flatMap enc ++ post).take m ++ vs ++ (pre ++ l.flatMap enc ++ post).drop (m + vs.length)).toArray T (0, 0) hg
    refine ⟨w.setRow b ((pre ++ l.flatMap enc ++ post).take m ++ vs ++ (pre ++ l.flatMap enc ++ post).drop (m + vs.length)).toArray, _, ?_, g, ?_⟩
    · unfold stE at h1
      split at h1
      · rename_i tt x' y' ho
        split at h1
        · rename_i p v mm hp hv hmm
          split at h1
          · rename_i hsz'
            simp at h1
            obtain ⟨rfl, rfl⟩ := h1
            have hx : evalD env x' = .pointer (some ⟨b, m, none⟩) := by simp [evalD, hp]
            have hy : evalD env y' = v := by simp [evalD, hv]
            simp only [execOp, ho, hx, hy, Instr.storeAt, Instr.sureAddr, storeVar]
            have hsz'' : v.cells.size = mm := by simpa using Nat.eq_of_beq_eq_true hsz'
            have hst := run_storeCells_at (P := P) b m T v.cells.toList 0 _ w hg (by simpa using hfit) (fun u hu => by rw [← oneB_eq]; exact List.all_eq_true.1 h1s u hu)
            simp only [Nat.add_zero] at hst
            simp [pureS_run hmm, hsz'', hst]
          · simp at h1
        · simp at h1
      · simp at h1
    · have s1 := s0.turn f3 f4 f5 f1 f2
      subst hm
      rw [enc_put hsz hi hj hy pre post] at s1
      have hpt : pre.length + i * sz + j = pre.length + i * sz + j := rfl
      rw [enc_put hsz hi hj hy pre post]
      refine sat_back h (s1.imp fun h' d' => star_mono (fun z hz => ?_) (fun _ h => h) d')
      exact ⟨hsz, by simpa using hcap, .inr ⟨b, pre, post, rfl, by simpa using hpost, hz⟩⟩

/-! A part of a slice. -/

theorem sl_narrow (lo hi : Nat) (h1 : lo ≤ hi) (h2 : hi ≤ l.length) : ∀ h, Sl T sz enc ad cap l h → Sl T sz enc (subA ad lo sz cap) (cap - lo) ((l.take hi).drop lo) h := by
  rintro h ⟨hk, hl, hd⟩
  refine ⟨hk, by simp; omega, ?_⟩
  rcases hd with ⟨rfl, rfl⟩ | ⟨b, pre, post, rfl, hp, rfl⟩
  · left; exact ⟨by omega, rfl⟩
  · right
    have e : l.flatMap enc = (l.take lo).flatMap enc ++ (((l.take hi).drop lo).flatMap enc ++ (l.drop hi).flatMap enc) := by
      conv => lhs; rw [← List.take_append_drop hi l, ← List.take_append_drop lo (l.take hi)]
      simp [List.take_take, Nat.min_eq_left h1]
    have l1 : ((l.take lo).flatMap enc).length = lo * sz := by rw [flat_len hk, List.length_take, Nat.min_eq_left (by omega)]
    have l2 : ((l.drop hi).flatMap enc).length = (l.length - hi) * sz := by rw [flat_len hk]; simp
    by_cases hc : cap = lo
    · have : lo = l.length := by omega
      have h3 : (l.take hi).drop lo = [] := by apply List.drop_of_length_le; simp; omega
      refine ⟨b, pre, l.flatMap enc ++ post, ?_, ?_, ?_⟩
      · simp [subA, hc]
      · simp [hc]
      · simp [h3]
    · refine ⟨b, pre ++ (l.take lo).flatMap enc, (l.drop hi).flatMap enc ++ post, ?_, ?_, ?_⟩
      · simp [subA, hc, add_off, l1]
      · have : (cap - lo - ((l.take hi).drop lo).length) * sz = (cap - l.length) * sz + (l.length - hi) * sz := by
          rw [← Nat.add_mul]; congr 1; simp; omega
        rw [this]; simp only [List.length_append, l2]; omega
      · rw [e]; simp

theorem reads_narrow (lo hi : Nat) (h1 : lo ≤ hi) (h2 : hi ≤ l.length) (hc : l.length ≤ cap) (r : Reads X sz enc ad l) : Reads X sz enc (subA ad lo sz cap) ((l.take hi).drop lo) := by
  intro h hx
  obtain ⟨hk, rfl | ⟨b, pre, post, T, fz, rfl, hb⟩⟩ := r h hx
  · exact ⟨hk, .inl (by simp)⟩
  · refine ⟨hk, ?_⟩
    have e : l.flatMap enc = (l.take lo).flatMap enc ++ (((l.take hi).drop lo).flatMap enc ++ (l.drop hi).flatMap enc) := by
      conv => lhs; rw [← List.take_append_drop hi l, ← List.take_append_drop lo (l.take hi)]
      simp [List.take_take, Nat.min_eq_left h1]
    have l1 : ((l.take lo).flatMap enc).length = lo * sz := by rw [flat_len hk, List.length_take, Nat.min_eq_left (by omega)]
    right
    by_cases hcl : cap = lo
    · have h3 : (l.take hi).drop lo = [] := by apply List.drop_of_length_le; simp; omega
      exact ⟨b, pre, l.flatMap enc ++ post, T, fz, by simp [subA, hcl], by rw [h3]; simpa using hb⟩
    · exact ⟨b, pre ++ (l.take lo).flatMap enc, (l.drop hi).flatMap enc ++ post, T, fz, by simp [subA, hcl, add_off, l1], by rw [e] at hb; simpa using hb⟩

theorem subA_zero (a : Option Addr) (m cap : Nat) : subA a 0 m cap = a := by
  unfold subA
  split
  · rfl
  · cases a <;> simp [Addr.add]

end Go.Sl
