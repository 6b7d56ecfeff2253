/- The operations that memory is asked for: loads, stores, new blocks, calls; loops; how a function is entered and left. -/
import Derived.Test.YtkhkdedngnneiaaGreatSlRun
namespace Go.Sl

variable {n : Fm} {a : Act} {env env' : Slots} {P : Program} {c0 : Code} {fin : Act → World → Prop} {w : World}
variable {E : Env} {L L' : List Chunk} {todo todo' k : List It} {o : Oper}

/-- An operation, wherever it stands: from what the slots and the memory hold it comes to a value and a memory of which K holds. -/
def OT (P : Program) (E : Env) (o : Oper) (env : Slots) (L : List Chunk) (K : Value → List Chunk → Prop) : Prop :=
  ∀ (r : Option Nat) (a : Act) (w : World) (next : Act → World → Prop) (Q : Exit → Act → World → Prop), execOp a.eval o = execOp (evalD env) o → (∀ c, o.op ≠ .defer c) → sat E w L →
    (∀ v w' L', K v L' → sat E w' L' → next (a.put o.dst v) w') → o.wpIn (Fr r) 0 P a w next Q

def opAt (c0 : Code) (p i : Nat) : Oper := match (opsAt c0 p)[i]? with
  | some o => o
  | none => default

def opChk (c0 : Code) (n : Fm) (env : Slots) (p i : Nat) : Bool :=
  match (opsAt c0 p)[i]? with
  | none => false
  | some o => dstOk n.sz o.dst && (known env o && (match wantE (opsAt c0 p) env o with | some true => true | _ => false))

theorem g_op {p i : Nat} (h : opChk c0 n env p i = true)
    (t : OT P E (opAt c0 p i) env L (fun v L' => G P c0 fin E n (.o p (i + 1) :: k) (putE (opAt c0 p i).dst v env) L')) :
    G P c0 fin E n (.o p i :: k) env L := by
  intro a w f s
  unfold opChk at h
  split at h
  · simp at h
  · rename_i o ho
    obtain ⟨hi, _⟩ := Array.getElem?_eq_some_iff.1 ho
    have hr : List.range' i ((opsAt c0 p).size - i) = i :: List.range' (i + 1) ((opsAt c0 p).size - (i + 1)) := by
      rw [show (opsAt c0 p).size - i = ((opsAt c0 p).size - (i + 1)) + 1 by omega, List.range'_succ]
    simp only [Bool.and_eq_true] at h
    obtain ⟨hd, hk, hw⟩ := h
    have hw' : wantE (opsAt c0 p) env o = some true := by
      split at hw
      · assumption
      · simp at hw
    have hoo : opAt c0 p i = o := by simp [opAt, ho]
    rw [hoo] at t
    simp only [denE]
    rw [hr]
    refine wpOpsIn_cons' _ _ _ _ ho true (wantE_ok f hw') ?_
    refine t _ a w _ _ (known_exec f hk) (known_nodefer hk) s fun v w' L' g s' => ?_
    simpa [denE] using g _ w' (f.put hd v) s'

/-- By what the operation comes to. -/
theorem ot_run {K : Value → List Chunk → Prop} (h : ∀ w, sat E w L → ∃ v w' L', (execOp (evalD env) o).run P w = .ok (.value v) w' ∧ K v L' ∧ sat E w' L') : OT P E o env L K := by
  intro r a w next Q he hd s hn
  obtain ⟨v, w', L', hr, hk, s'⟩ := h w s
  exact wpIn_val hd (he ▸ hr) (hn v w' L' hk s')

theorem ot_skip {K : Value → List Chunk → Prop} (h : ∀ w, sat E w L → ∃ w' L', (execOp (evalD env) o).run P w = .ok .skip w' ∧ K undef L' ∧ sat E w' L') : OT P E o env L K := by
  intro r a w next Q he hd s hn
  obtain ⟨w', L', hr, hk, s'⟩ := h w s
  exact wpIn_skp hd (he ▸ hr) (hn undef w' L' hk s')

/-- A plain one, in a region that draws. -/
theorem ot_pure {K : Value → List Chunk → Prop} (v : Value) (h : pureOp P env o = some v) (g : K v L) : OT P E o env L K := by
  refine ot_run fun w s => ⟨v, w, L, ?_, g, s⟩
  unfold pureOp at h
  split at h
  · simp at h
  · split at h
    · rename_i u hu; simp at h; subst h; exact pureS_run hu w
    · simp at h

/-! Chunks by their places. -/

theorem sat_front {ci : Nat} {c : Chunk} (h : L[ci]? = some c) (s : sat E w L) : sat E w (c :: L.eraseIdx ci) := by
  obtain ⟨hi, rfl⟩ := List.getElem?_eq_some_iff.1 h
  exact s.perm (perm_eraseIdx hi)
theorem perm_set {ci : Nat} {c : Chunk} (hi : ci < L.length) : (c :: L.eraseIdx ci).Perm (L.set ci c) := by
  have h := perm_eraseIdx (L := L.set ci c) (i := ci) (by simpa using hi)
  simp only [List.getElem_set_self, List.eraseIdx_set_eq] at h
  exact h.symm
theorem sat_back {ci : Nat} {c c' : Chunk} (h : L[ci]? = some c) (s : sat E w (c' :: L.eraseIdx ci)) : sat E w (L.set ci c') := by
  obtain ⟨hi, rfl⟩ := List.getElem?_eq_some_iff.1 h
  exact s.perm (perm_set hi)
theorem sat_obj {ci b : Nat} {x : Obj} (h : L[ci]? = some (.obj b x)) (s : sat E w L) : w.heap[b]? = some x := (sat_front h s).head_obj

theorem modify_set {ci : Nat} {c : Chunk} {f : Chunk → Chunk} (hc : L[ci]? = some c) : L.modify ci f = L.set ci (f c) := by
  obtain ⟨hi, rfl⟩ := List.getElem?_eq_some_iff.1 hc
  apply List.ext_getElem?
  intro j
  rw [List.getElem?_modify, List.getElem?_set]
  by_cases hj : ci = j
  · subst hj; simp [hi]
  · simp [hj]

/-! Loads. -/

def ldA (P : Program) (env : Slots) (o : Oper) : Option Value := match o.op with
  | .load t x => match pureS P (isAgg t) with
    | some false => evalE env x
    | _ => none
  | _ => none

def cellOf (L : List Chunk) (ci off : Nat) : Option (Nat × Value) := match L[ci]? with
  | some (.obj b (.cells C _ _)) => match C[off]? with
    | some v => some (b, v)
    | none => none
  | _ => none

theorem cellOf_cell {ci off b : Nat} {v : Value} (h : cellOf L ci off = some (b, v)) (s : sat E w L) : w.cell? ⟨b, off, none⟩ = some v := by
  unfold cellOf at h
  split at h
  · rename_i b' C t fz hc
    split at h
    · rename_i u hu
      simp at h; obtain ⟨rfl, rfl⟩ := h
      simp [World.cell?, sat_obj hc s, hu]
    · simp at h
  · simp at h

theorem ot_load_at {K : Value → List Chunk → Prop} (p : Addr) (v : Value) (h1 : ldA P env o = some (.pointer (some p)))
    (h2 : ∀ w, sat E w L → w.cell? p = some v) (g : K v L) : OT P E o env L K := by
  refine ot_run fun w s => ⟨v, w, L, ?_, g, s⟩
  unfold ldA at h1
  split at h1
  · rename_i t x ho
    split at h1
    · rename_i hagg
      have hx : evalD env x = .pointer (some p) := by simp [evalD, h1]
      simp only [execOp, ho, hx, Instr.loadAt, Instr.sureAddr, loadVar]
      simp [pureS_run hagg, h2 w s]
    · simp at h1
  · simp at h1

theorem ot_load {K : Value → List Chunk → Prop} (ci b off : Nat) (v : Value) (h1 : ldA P env o = some (.pointer (some ⟨b, off, none⟩)))
    (h2 : cellOf L ci off = some (b, v)) (g : K v L) : OT P E o env L K := ot_load_at _ v h1 (fun _ s => cellOf_cell h2 s) g

def ldG (P : Program) (env : Slots) (o : Oper) : Option (Value × Nat) := match o.op with
  | .load t x => match pureS P (isAgg t), pureS P (sizeOf t), evalE env x with
    | some true, some m, some v => some (v, m)
    | _, _, _ => none
  | _ => none

def cellsOf (L : List Chunk) (ci off m : Nat) : Option (Nat × List Value) := match L[ci]? with
  | some (.obj b (.cells C _ _)) => match Nat.ble (off + m) C.toList.length with
    | true => some (b, (C.toList.drop off).take m)
    | false => none
  | _ => none

theorem add_off (b off j : Nat) : (⟨b, off, none⟩ : Addr).add j = ⟨b, off + j, none⟩ := by unfold Addr.add; split <;> simp_all

theorem ot_loadA_at {K : Value → List Chunk → Prop} (b off : Nat) (vs : List Value) (h1 : ldG P env o = some (.pointer (some ⟨b, off, none⟩), vs.length))
    (h2 : ∀ w, sat E w L → ∀ j v, vs[j]? = some v → w.cell? ⟨b, off + j, none⟩ = some v) (g : K (.agg vs.toArray) L) : OT P E o env L K := by
  refine ot_run fun w s => ⟨_, w, L, ?_, g, s⟩
  unfold ldG at h1
  split at h1
  · rename_i t x ho
    split at h1
    · rename_i m v hagg hsz hv
      simp at h1
      obtain ⟨rfl, rfl⟩ := h1
      have hx : evalD env x = .pointer (some ⟨b, off, none⟩) := by simp [evalD, hv]
      simp only [execOp, ho, hx, Instr.loadAt, Instr.sureAddr, loadVar]
      have hr := run_loadCells_list (P := P) w ⟨b, off, none⟩ vs (fun j v hj => by rw [add_off]; exact h2 w s j v hj)
      simp [pureS_run hagg, pureS_run hsz, hr]
    · simp at h1
  · simp at h1

theorem ot_loadA {K : Value → List Chunk → Prop} (ci b off : Nat) (vs : List Value) (h1 : ldG P env o = some (.pointer (some ⟨b, off, none⟩), vs.length))
    (h2 : cellsOf L ci off vs.length = some (b, vs)) (g : K (.agg vs.toArray) L) : OT P E o env L K := by
  refine ot_loadA_at b off vs h1 (fun w s j v hj => ?_) g
  unfold cellsOf at h2
  split at h2
  · rename_i b' C t fz hc
    split at h2
    · simp only [Option.some.injEq, Prod.mk.injEq] at h2
      obtain ⟨rfl, h3⟩ := h2
      have hjl : j < vs.length := (List.getElem?_eq_some_iff.1 hj).1
      have : C.toList[off + j]? = some v := by
        rw [← h3, List.getElem?_take, List.getElem?_drop] at hj
        split at hj
        · exact hj
        · exact absurd hjl (by assumption)
      simp [World.cell?, sat_obj hc s]
      simpa using this
    · simp at h2
  · simp at h2

/-! Stores. -/

def stE (P : Program) (env : Slots) (o : Oper) : Option (Value × List Value) := match o.op with
  | .store t x y => match evalE env x, evalE env y, pureS P (sizeOf t) with
    | some p, some v, some m => match Nat.beq v.cells.toList.length m with
      | true => some (p, v.cells.toList)
      | false => none
    | _, _, _ => none
  | _ => none

def oneB : Value → Bool
  | .agg _ => false
  | .tuple _ => false
  | _ => true
theorem oneB_eq (v : Value) : oneB v = v.oneCell' := by cases v <;> rfl

def stoC (off : Nat) (vs : List Value) : Chunk → Chunk
  | .obj b (.cells C t fz) => .obj b (.cells (C.toList.take off ++ vs ++ C.toList.drop (off + vs.length)).toArray t fz)
  | c => c

def stoChk (L : List Chunk) (ci off : Nat) (vs : List Value) : Option Nat := match L[ci]? with
  | some (.obj b (.cells C _ (0, 0))) => match Nat.ble (off + vs.length) C.toList.length && vs.all oneB with
    | true => some b
    | false => none
  | _ => none

theorem setRow_facts (w : World) (g : Nat) (C C' : Array Value) (t : TypeId) (fz : Nat × Nat) (hg : w.heap[g]? = some (.cells C t fz)) :
    (w.setRow g C').heap[g]? = some (.cells C' t fz) ∧ (∀ c, c ≠ g → (w.setRow g C').heap[c]? = w.heap[c]?) ∧ (w.setRow g C').os = w.os ∧ (w.setRow g C').tape = w.tape ∧ (w.setRow g C').output = w.output := by
  refine ⟨?_, ?_, rfl, rfl, rfl⟩
  · simp [World.setRow, Array.getElem?_modify, hg]
  · intro c hc
    have hc' : g ≠ c := fun e => hc e.symm
    simp [World.setRow, Array.getElem?_modify, hc']

theorem ot_store {K : Value → List Chunk → Prop} (ci b off : Nat) (vs : List Value) (h1 : stE P env o = some (.pointer (some ⟨b, off, none⟩), vs))
    (h2 : stoChk L ci off vs = some b) (g : K undef (L.modify ci (stoC off vs))) : OT P E o env L K := by
  refine ot_skip fun w s => ?_
  unfold stoChk at h2
  split at h2
  · rename_i b' C t hc
    split at h2
    · rename_i hall
      simp at h2; subst h2
      simp only [Bool.and_eq_true] at hall
      have hle := Nat.le_of_ble_eq_true hall.1
      have hg := sat_obj hc s
      obtain ⟨f1, f2, f3, f4, f5⟩ := setRow_facts w b' C (C.toList.take off ++ vs ++ C.toList.drop (off + vs.length)).toArray t (0, 0) hg
      refine ⟨w.setRow b' (C.toList.take off ++ vs ++ C.toList.drop (off + vs.length)).toArray, _, ?_, g, ?_⟩
      · unfold stE at h1
        split at h1
        · rename_i tt x y ho
          split at h1
          · rename_i p v m hp hv hm
            split at h1
            · rename_i hsz
              simp at h1
              obtain ⟨rfl, rfl⟩ := h1
              have hx : evalD env x = .pointer (some ⟨b', off, none⟩) := by simp [evalD, hp]
              have hy : evalD env y = v := by simp [evalD, hv]
              simp only [execOp, ho, hx, hy, Instr.storeAt, Instr.sureAddr, storeVar]
              have hsz' : v.cells.size = m := by simpa using Nat.eq_of_beq_eq_true hsz
              have hst := run_storeCells_at (P := P) b' off t v.cells.toList 0 C w hg (by simpa using hle) (fun u hu => by rw [← oneB_eq]; exact List.all_eq_true.1 hall.2 u hu)
              simp only [Nat.add_zero] at hst
              simp [pureS_run hm, hsz', hst]
            · simp at h1
          · simp at h1
        · simp at h1
      · have s1 := (sat_front hc s).turn (w' := w.setRow b' (C.toList.take off ++ vs ++ C.toList.drop (off + vs.length)).toArray) f3 f4 f5 f1 f2
        have s2 := sat_back hc s1
        rw [modify_set hc]; exact s2
    · simp at h2
  · simp at h2


/-! New blocks. -/

theorem fresh_alloc {x : Obj} (s : sat E w L) : sat E { w with heap := w.heap.push x } (.obj w.heap.size x :: L) := s.fresh rfl rfl rfl rfl

/-- What a new variable holds: its type and its cells. -/
def newE (P : Program) (env : Slots) (o : Oper) : Option (Array Value × TypeId) := match o.op with
  | .alloc t => match pureS P (zeroValue t) with
    | some v => some (v.cells, t)
    | none => none
  | .box t x => match evalE env x with
    | some v => some (v.cells, t)
    | none => none
  | _ => none

theorem ot_new {K : Value → List Chunk → Prop} (C : Array Value) (t : TypeId) (h1 : newE P env o = some (C, t))
    (g : ∀ b, K (.pointer (some ⟨b, 0, none⟩)) (.obj b (.cells C t (0, 0)) :: L)) : OT P E o env L K := by
  refine ot_run fun w s => ⟨_, _, _, ?_, g w.heap.size, fresh_alloc s⟩
  unfold newE at h1
  split at h1
  · rename_i t' ho
    split at h1
    · rename_i v hv
      simp at h1; obtain ⟨rfl, rfl⟩ := h1
      simp [execOp, ho, Instr.alloc, pureS_run hv, newVar, newRow]
    · simp at h1
  · rename_i t' x ho
    split at h1
    · rename_i v hv
      simp at h1; obtain ⟨rfl, rfl⟩ := h1
      simp [execOp, ho, Instr.box, evalD, hv, newVar, newRow]
    · simp at h1
  · simp at h1

/-- A literal slice: its elements' type, how many cells an element has, its length, its cells. -/
def litE (P : Program) (env : Slots) (o : Oper) : Option (TypeId × Nat × Array Value) := match o.op with
  | .buildSlice t len parts => match pureS P (underlying t) with
    | some (.slice e) => match pureS P (sizeOf e), pureS P (zeroValue e) with
      | some sz, some z => match Nat.ble (len * sz) (2 ^ 24), Nat.beq (len * sz) 0, Instr.fill (fun i => some (i * sz, sz)) ((Array.range (len * sz)).map (z.cells[· % z.cells.size]!)) (parts.map fun (i, x) => (i, evalD env x)).toList with
        | true, false, some C => some (e, len, C)
        | _, _, _ => none
      | _, _ => none
    | _ => none
  | _ => none

theorem ot_lit {K : Value → List Chunk → Prop} (e : TypeId) (len : Nat) (C : Array Value) (h1 : litE P env o = some (e, len, C))
    (g : ∀ b, K (.slice (some ⟨b, 0, none⟩) len len) (.obj b (.cells C e (0, 0)) :: L)) : OT P E o env L K := by
  refine ot_run fun w s => ⟨_, _, _, ?_, g w.heap.size, fresh_alloc s⟩
  unfold litE at h1
  split at h1
  · rename_i t len' parts ho
    split at h1
    · rename_i e' hu
      split at h1
      · rename_i sz z hsz hz
        split at h1
        · rename_i C' hb h0 hf
          simp at h1; obtain ⟨rfl, rfl, rfl⟩ := h1
          have hb' := Nat.le_of_ble_eq_true hb
          have h0' := Nat.ne_of_beq_eq_false h0
          have h0'' : ¬ (len' * sz = 0) := h0'
          have h1' : ¬ (len' * sz > 2 ^ 24) := by omega
          simp only [execOp, ho, Instr.buildSlice, Sem.run_bind, pureS_run hu, pureS_run hsz, Result.andThen_ok, if_neg h1', if_neg h0'', Sem.run_pure, pureS_run hz]
          simp at hf
          simp [hf, newRow]
        · simp at h1
      · simp at h1
    · simp at h1
  · simp at h1

end Go.Sl
