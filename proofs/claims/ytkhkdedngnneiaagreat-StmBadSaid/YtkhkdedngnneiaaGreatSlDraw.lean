/- A region that draws its order: what each operation comes to, whenever it comes up; the operations that turn memory, one behind the other. -/
import Derived.Test.YtkhkdedngnneiaaGreatSlFn
namespace Go.Sl

variable {n : Fm} {a : Act} {env env' : Slots} {P : Program} {c0 : Code} {fin : Act → World → Prop} {w : World}
variable {E : Env} {L L' : List Chunk} {todo todo' k : List It} {o : Oper}

abbrev Vals := List (Nat × Value)

def preds (o : Oper) : List Nat := o.after.toList.filterMap fun e => match Region.binds .any e with
  | true => some e.on
  | false => none

def hasN (i : Nat) : List Nat → Bool
  | [] => false
  | j :: r => match Nat.beq j i with
    | true => true
    | false => hasN i r
def keyN (i : Nat) : Vals → Bool
  | [] => false
  | (j, _) :: r => match Nat.beq j i with
    | true => true
    | false => keyN i r

theorem hasN_iff {i : Nat} : ∀ {l : List Nat}, hasN i l = true ↔ i ∈ l
  | [] => by simp [hasN]
  | j :: r => by
    have := hasN_iff (i := i) (l := r)
    simp only [hasN]
    split
    · rename_i h; have := Nat.eq_of_beq_eq_true h; simp [this]
    · rename_i h; have h' := Nat.ne_of_beq_eq_false h; have h2 : ¬ i = j := fun e => h' e.symm; simp [this, h2]
theorem keyN_iff {i : Nat} : ∀ {l : Vals}, keyN i l = true ↔ ∃ v, (i, v) ∈ l
  | [] => by simp [keyN]
  | (j, u) :: r => by
    have := keyN_iff (i := i) (l := r)
    simp only [keyN]
    split
    · rename_i h; have := Nat.eq_of_beq_eq_true h; subst this; simp
    · rename_i h
      have h' := Nat.ne_of_beq_eq_false h
      rw [this]
      constructor
      · rintro ⟨v, hv⟩; exact ⟨v, List.mem_cons_of_mem _ hv⟩
      · rintro ⟨v, hv⟩
        rcases List.mem_cons.1 hv with e | hv
        · simp at e; exact absurd e.1.symm h'
        · exact ⟨v, hv⟩

/-- The slots that operation i finds, whenever it comes up. -/
def envD (ops : List Oper) (env : Slots) (K : Vals) (i : Nat) : Slots :=
  (K.filterMap fun e => match hasN e.1 (match ops[i]? with | some o => preds o | none => []) with
    | true => match ops[e.1]? with
      | some oj => oj.dst.map fun d => (d, e.2)
      | none => none
    | false => none) ++
  env.filter fun s => ops.all fun oj => match oj.dst with
    | none => true
    | some d => !(Nat.beq d s.1) || hasN i (preds oj)

/-- A region that may be walked so: edges lead back, no slot is written twice, each slot is there. -/
def regOk (n : Fm) (ops : List Oper) : Bool :=
  (ops.zipIdx.all fun x => (preds x.1).all (Nat.blt · x.2) && dstOk n.sz x.1.dst) &&
  ops.zipIdx.all fun x => ops.zipIdx.all fun y => Nat.beq x.2 y.2 || (match x.1.dst, y.1.dst with
    | some d, some e => !(Nat.beq d e)
    | _, _ => true)

def lst (listed : Array Bool) (i : Nat) : Prop := listed.getD i false = true

structure Inv (n : Fm) (ops : List Oper) (env : Slots) (K : Vals) (fx : List Nat) (listed : Array Bool) (fuel : Nat) (a : Act) : Prop where
  size : listed.size = ops.length
  count : ((List.range ops.length).filter fun i => !listed.getD i false).length ≤ fuel
  closed : ∀ i o, ops[i]? = some o → lst listed i → ∀ j ∈ preds o, lst listed j
  keys : ∀ i, i < ops.length → lst listed i → ∃ v, (i, v) ∈ K
  done : ∀ i ∈ fx, lst listed i
  tmps : a.tmps.size = n.sz
  defers : a.defers = n.df
  env : ∀ s ∈ env, (∀ j o, ops[j]? = some o → lst listed j → o.dst ≠ some s.1) → a.tmps[s.1]? = some s.2
  vals : ∀ e ∈ K, lst listed e.1 → ∀ o, ops[e.1]? = some o → ∀ d, o.dst = some d → a.tmps[d]? = some e.2

def DR (P : Program) (c0 : Code) (fin : Act → World → Prop) (E : Env) (n : Fm) (p : Nat) (k : List It) (fx : List Nat) (K : Vals) (env : Slots) (L : List Chunk) : Prop :=
  ∀ a w fuel listed, Inv n (opsAt c0 p).toList env K fx listed fuel a → sat E w L → wpAnyIn (Fr n.rd) 0 P .any (opsAt c0 p) (fun e => denE P c0 n.rd fin e k) fuel listed a w

variable {p : Nat} {fx : List Nat} {K K' newK : Vals} {ops : List Oper} {listed : Array Bool} {fuel : Nat} {fx' : List Nat}

theorem getD_range (l : Array Bool) (i : Nat) (h : i < l.size) (b : Bool) : l.getD i b = l.getD i false := by simp [Array.getD, h]

theorem mem_ready {ops : Array Oper} {listed : Array Bool} (hs : listed.size = ops.size) {i : Nat} :
    i ∈ Region.ready .any ops listed ↔ ∃ o, ops[i]? = some o ∧ ¬ lst listed i ∧ ∀ j ∈ preds o, lst listed j := by
  simp only [Region.ready, List.mem_filter, List.mem_range, Bool.and_eq_true]
  constructor
  · rintro ⟨hi, h1, h2⟩
    refine ⟨ops[i], by simp [hi], ?_, ?_⟩
    · rw [getD_range _ _ (by omega)] at h1; simpa [lst] using h1
    · simp [hi] at h2
      intro j hj
      simp only [preds, List.mem_filterMap] at hj
      obtain ⟨e, he, h3⟩ := hj
      split at h3
      · rename_i hb
        simp at h3; subst h3
        obtain ⟨m, hm, rfl⟩ := List.mem_iff_getElem.1 he
        rcases h2 m (by simpa using hm) with h | h
        · simp at hb; rw [hb] at h; simp at h
        · simp [lst]; exact h
      · simp at h3
  · rintro ⟨o, ho, h1, h2⟩
    obtain ⟨hi, rfl⟩ := Array.getElem?_eq_some_iff.1 ho
    refine ⟨hi, ?_, ?_⟩
    · rw [getD_range _ _ (by omega)]; simpa [lst] using h1
    · simp [hi]
      intro m hm
      cases hb : Region.binds .any ops[i].after[m] with
      | false => exact .inl rfl
      | true =>
        right
        have := h2 ops[i].after[m].on (List.mem_filterMap.2 ⟨ops[i].after[m], by simp, by simp [hb]⟩)
        simpa [lst] using this


theorem lst_set {listed : Array Bool} {i j : Nat} (hi : i < listed.size) : lst (listed.setIfInBounds i true) j ↔ j = i ∨ lst listed j := by
  unfold lst
  simp only [Array.getD_eq_getD_getElem?, Array.getElem?_setIfInBounds]
  by_cases h : i = j
  · subst h; simp [hi]
  · have h2 : ¬ j = i := fun e => h e.symm
    simp [h, h2]

theorem count_set {listed : Array Bool} {i m : Nat} (hi : i < m) (hs : listed.size = m) (hn : ¬ lst listed i) :
    ((List.range m).filter fun j => !(listed.setIfInBounds i true).getD j false).length < ((List.range m).filter fun j => !listed.getD j false).length := by
  have e : ((List.range m).filter fun j => !(listed.setIfInBounds i true).getD j false) = ((List.range m).filter fun j => !listed.getD j false).filter (fun j => j != i) := by
    rw [List.filter_filter]
    apply List.filter_congr
    intro j _
    have := lst_set (listed := listed) (i := i) (j := j) (by omega)
    unfold lst at this hn
    by_cases h : j = i
    · subst h; simp [this.2 (.inl rfl)]
    · cases h1 : listed.getD j false with
      | true => simp [this.2 (.inr h1)]
      | false =>
        have h2 : (listed.setIfInBounds i true).getD j false = false := by
          cases h3 : (listed.setIfInBounds i true).getD j false with
          | false => rfl
          | true => rcases this.1 h3 with h4 | h4
                    · exact absurd h4 h
                    · rw [h1] at h4; simp at h4
        simp [h2, h]
  rw [e]
  have hmem : i ∈ (List.range m).filter fun j => !listed.getD j false := by
    unfold lst at hn
    simp [hi]
    simpa using hn
  exact List.length_filter_lt_length_iff_exists.2 ⟨i, hmem, by simp⟩

structure RegOk (n : Fm) (ops : List Oper) : Prop where
  back : ∀ (i : Nat) (o : Oper), ops[i]? = some o → ∀ j ∈ preds o, j < i
  dst : ∀ (i : Nat) (o : Oper), ops[i]? = some o → dstOk n.sz o.dst = true
  apart : ∀ (i j : Nat) (o u : Oper), ops[i]? = some o → ops[j]? = some u → i ≠ j → ∀ d, o.dst = some d → u.dst ≠ some d

theorem regOk_spec (h : regOk n ops = true) : RegOk n ops := by
  simp only [regOk, Bool.and_eq_true, List.all_eq_true] at h
  obtain ⟨h1, h2⟩ := h
  have mem : ∀ i o, ops[i]? = some o → (o, i) ∈ ops.zipIdx := fun i o h => List.mk_mem_zipIdx_iff_getElem?.2 h
  refine ⟨fun i o ho j hj => ?_, fun i o ho => (h1 _ (mem i o ho)).2, fun i j o u ho hu hij d hd he => ?_⟩
  · simpa [Nat.blt_eq] using (h1 _ (mem i o ho)).1 j hj
  · have := h2 _ (mem i o ho) _ (mem j u hu)
    simp only [hd, he, Bool.or_eq_true] at this
    rcases this with h | h
    · exact hij (Nat.eq_of_beq_eq_true h)
    · simp at h

/-- What operation i finds is there when it comes up. -/
theorem envD_fits (I : Inv n ops env K fx listed fuel a) {i : Nat} {o : Oper} (ho : ops[i]? = some o) (hn : ¬ lst listed i) (hp : ∀ j ∈ preds o, lst listed j) : Fits n a (envD ops env K i) := by
  refine ⟨I.tmps, I.defers, fun s hs => ?_⟩
  simp only [envD, List.mem_append, List.mem_filterMap, List.mem_filter, ho] at hs
  rcases hs with ⟨e, he, h⟩ | ⟨hs, h⟩
  · split at h
    · rename_i hb
      split at h
      · rename_i oj hoj
        simp only [Option.map_eq_some_iff] at h
        obtain ⟨d, hd, rfl⟩ := h
        exact I.vals e he (hp _ (hasN_iff.1 hb)) oj hoj d hd
      · simp at h
    · simp at h
  · refine I.env s hs fun j oj hoj hl hd => ?_
    have := List.all_eq_true.1 h oj (List.mem_of_getElem? hoj)
    simp only [hd, Bool.or_eq_true] at this
    rcases this with h | h
    · simp at h
    · exact hn (I.closed j oj hoj hl i (hasN_iff.1 h))

theorem Inv.set (R : RegOk n ops) (I : Inv n ops env K fx listed (fuel + 1) a) {i : Nat} {o : Oper} {v : Value} (ho : ops[i]? = some o) (hn : ¬ lst listed i) (hp : ∀ j ∈ preds o, lst listed j)
    (hK : ∀ e ∈ K', e ∈ K ∨ e = (i, v)) (hKi : ∀ e ∈ K, e ∈ K') (hv : (i, v) ∈ K') (hu : ∀ u, (i, u) ∈ K' → u = v) (hfx : ∀ j ∈ fx', j ∈ fx ∨ j = i) :
    Inv n ops env K' fx' (listed.setIfInBounds i true) fuel (a.put o.dst v) := by
  have hi : i < ops.length := (List.getElem?_eq_some_iff.1 ho).1
  have hsz : i < listed.size := by rw [I.size]; exact hi
  have hdst := R.dst i o ho
  refine ⟨by simp [I.size], ?_, ?_, ?_, ?_, ?_, ?_, ?_, ?_⟩
  · have := count_set hi I.size hn
    have := I.count
    omega
  · intro j oj hoj hl q hq
    rw [lst_set hsz] at hl ⊢
    rcases hl with rfl | hl
    · rw [ho] at hoj; simp at hoj; subst hoj; exact .inr (hp q hq)
    · exact .inr (I.closed j oj hoj hl q hq)
  · intro j hj hl
    rw [lst_set hsz] at hl
    rcases hl with rfl | hl
    · exact ⟨v, hv⟩
    · obtain ⟨u, h⟩ := I.keys j hj hl; exact ⟨u, hKi _ h⟩
  · intro j hj
    rw [lst_set hsz]
    rcases hfx j hj with h | h
    · exact .inr (I.done j h)
    · exact .inl h
  · cases hd : o.dst <;> simp [Act.put, I.tmps]
  · cases hd : o.dst <;> simp [Act.put, I.defers]
  · intro s hs h
    have h0 := I.env s hs fun j oj hoj hl => h j oj hoj ((lst_set hsz).2 (.inr hl))
    have h1 := h i o ho ((lst_set hsz).2 (.inl rfl))
    cases hd : o.dst with
    | none => simpa [Act.put] using h0
    | some d =>
      rw [hd] at h1
      have hne : d ≠ s.1 := fun e => h1 (by rw [e])
      simp only [Act.put]
      rw [Array.getElem?_setIfInBounds_ne hne]; exact h0
  · intro e he hl oj hoj d hd
    by_cases h : e.1 = i
    · have hev : e.2 = v := hu e.2 (by rw [← h]; exact he)
      rw [h, ho] at hoj; simp at hoj; subst hoj
      have : d < n.sz := by simpa [dstOk, hd, Nat.blt_eq] using hdst
      simp [Act.put, hd, I.tmps, this, hev]
    · have hl' : lst listed e.1 := by
        rcases (lst_set hsz).1 hl with h' | h'
        · exact absurd h' h
        · exact h'
      rcases hK e he with h' | h'
      · have h0 := I.vals e h' hl' oj hoj d hd
        cases hdo : o.dst with
        | none => simpa [Act.put] using h0
        | some d' =>
          have hne : d' ≠ d := fun e' => R.apart i e.1 o oj ho hoj (fun e => h e.symm) d' hdo (by rw [e', hd])
          simp only [Act.put]
          rw [Array.getElem?_setIfInBounds_ne hne]; exact h0
      · exact absurd (by rw [h']) h


theorem exec_nodefer {ρ : Operand → Value} {o : Oper} {v : Value} {w w' : World} (h : (execOp ρ o).run P w = .ok (.value v) w') : ∀ c, o.op ≠ .defer c := by
  intro c e
  simp only [execOp, e, Sem.run_bind] at h
  cases hq : (resolve ρ c o.type).run P w <;> simp [hq, Result.andThen] at h

theorem wpOpIn_known {ops : Array Oper} {Q : Exit → Act → World → Prop} {i : Nat} {a : Act} {w : World} {r : Option Nat} {o : Oper} {K : Act → World → Prop} {v : Value} (ho : ops[i]? = some o)
    (h : (Region.wanted o (yielded ops a.tmps) = true ∧ (execOp a.eval o).run P w = .ok (.value v) w) ∨ (Region.wanted o (yielded ops a.tmps) = false ∧ v = undef)) (g : K (a.put o.dst v) w) :
    wpOpIn (Fr r) 0 P ops Q i K a w := by
  simp only [wpOpIn, ho]
  rcases h with ⟨hw, hr⟩ | ⟨hw, rfl⟩
  · rw [hw]; exact wpIn_val (exec_nodefer hr) hr g
  · rw [hw]; exact ⟨fun _ _ => trivial, g⟩

/-- What operation i comes to, whenever it comes up: a value, or it is passed over. -/
def EvOK (P : Program) (E : Env) (n : Fm) (ops : Array Oper) (env : Slots) (L : List Chunk) (K : Vals) (i : Nat) (v : Value) : Prop :=
  ∀ o, ops[i]? = some o → ∀ a w, Fits n a (envD ops.toList env K i) → sat E w L →
    (Region.wanted o (yielded ops a.tmps) = true ∧ (execOp a.eval o).run P w = .ok (.value v) w) ∨ (Region.wanted o (yielded ops a.tmps) = false ∧ v = undef)

/-- Evidence for each value that may still come up. -/
inductive Evs (P : Program) (E : Env) (n : Fm) (ops : Array Oper) (env : Slots) (L : List Chunk) (K : Vals) (fx : List Nat) : Vals → Prop where
  | nil : Evs P E n ops env L K fx []
  | done (i : Nat) (v : Value) {r : Vals} (h : hasN i fx = true) (t : Evs P E n ops env L K fx r) : Evs P E n ops env L K fx ((i, v) :: r)
  | one (i : Nat) (v : Value) {r : Vals} (h : EvOK P E n ops env L K i v) (t : Evs P E n ops env L K fx r) : Evs P E n ops env L K fx ((i, v) :: r)

def pureW (P : Program) (ops : Array Oper) (env : Slots) (K : Vals) (i : Nat) : Option Value := match ops[i]? with
  | none => none
  | some o => match wantE ops (envD ops.toList env K i) o with
    | some false => some undef
    | some true => pureOp P (envD ops.toList env K i) o
    | none => none

theorem evOK_pure {ops : Array Oper} {i : Nat} {v : Value} (h : pureW P ops env K i = some v) : EvOK P E n ops env L K i v := by
  intro o ho a w f s
  unfold pureW at h
  rw [ho] at h
  simp only at h
  split at h
  · rename_i hw; simp at h; exact .inr ⟨wantE_ok f hw, h.symm⟩
  · rename_i hw; exact .inl ⟨wantE_ok f hw, pureOp_run f h w⟩
  · simp at h

/-- Plain ones, all at once. -/
theorem Evs.plain {ops : Array Oper} (K1 : Vals) {r : Vals} (h : (K1.map fun e => pureW P ops env K e.1) = K1.map fun e => some e.2) (t : Evs P E n ops env L K fx r) : Evs P E n ops env L K fx (K1 ++ r) := by
  have h' := List.map_inj_left.1 h
  induction K1 with
  | nil => exact t
  | cons e K1 ih => exact .one e.1 e.2 (evOK_pure (h' e (by simp))) (ih (List.map_inj_left.2 fun x hx => h' x (by simp [hx])) (fun x hx => h' x (by simp [hx])))

theorem Evs.get {ops : Array Oper} {R : Vals} (h : Evs P E n ops env L K fx R) : ∀ e ∈ R, e.1 ∈ fx ∨ EvOK P E n ops env L K e.1 e.2 := by
  induction h with
  | nil => simp
  | done i v h t ih =>
    intro e he
    rcases List.mem_cons.1 he with rfl | he
    · exact .inl (hasN_iff.1 h)
    · exact ih e he
  | one i v h t ih =>
    intro e he
    rcases List.mem_cons.1 he with rfl | he
    · exact .inr h
    · exact ih e he

/-- A load. -/
theorem evOK_load {ops : Array Oper} {i : Nat} {v : Value} (p : Addr)
    (h1 : (match ops[i]? with | some o => (match wantE ops (envD ops.toList env K i) o, known (envD ops.toList env K i) o with | some true, true => ldA P (envD ops.toList env K i) o | _, _ => none) | none => none) = some (.pointer (some p)))
    (h2 : ∀ w, sat E w L → w.cell? p = some v) : EvOK P E n ops env L K i v := by
  intro o ho a w f s
  rw [ho] at h1
  simp only at h1
  split at h1
  · rename_i hw hk
    refine .inl ⟨wantE_ok f hw, ?_⟩
    rw [known_exec f hk]
    generalize envD ops.toList env K i = e at *
    unfold ldA at h1
    split at h1
    · rename_i t x ho
      split at h1
      · rename_i hagg
        have hx : evalD e x = .pointer (some p) := by simp [evalD, h1]
        simp only [execOp, ho, hx, Instr.loadAt, Instr.sureAddr, loadVar]
        simp [pureS_run hagg, h2 w s]
      · simp at h1
    · simp at h1
  · simp at h1

theorem d_start {p : Nat} (hm : P.follows .mixedOrders = true) (hd : (match codeAt c0 (p + 1) with | some (.region _ _ true) => true | _ => false) = true)
    (d : DR P c0 fin E n (p + 1) k [] [] env L) : G P c0 fin E n (.c (p + 1) :: k) env L := by
  intro a w f s
  split at hd
  · rename_i id ops hc
    rw [denE_c hc]
    refine wpIn_region_any hm ?_
    have ho : opsAt c0 (p + 1) = ops := by simp [opsAt, hc]
    have := d a { w with drawn := w.drawn + 1 } ops.size (Array.replicate ops.size false) ?_ (s.world rfl rfl rfl fun _ _ h => h)
    · rw [ho] at this; exact this
    · rw [ho]
      have nol : ∀ i, ¬ lst (Array.replicate ops.size false) i := by
        intro i
        unfold lst
        by_cases h : i < ops.size <;> simp [h]
      refine ⟨by simp, ?_, fun i o _ h => absurd h (nol i), fun i _ h => absurd h (nol i), by simp, f.1, f.2.1, fun e he _ => f.2.2 e he, by simp⟩
      exact Nat.le_trans (List.length_filter_le _ _) (by simp)
  · simp at hd

/-- Somebody is ready as long as not all have come up. -/
theorem ready_some (R : RegOk n ops) : ∀ m i, i < ops.length → i ≤ m → ¬ lst listed i → ∃ j o, ops[j]? = some o ∧ ¬ lst listed j ∧ ∀ q ∈ preds o, lst listed q := by
  intro m
  induction m with
  | zero =>
    intro i hi hm hn
    obtain rfl : i = 0 := by omega
    exact ⟨0, ops[0], by simp [hi], hn, fun q hq => absurd (R.back 0 _ (by simp [hi]) q hq) (by omega)⟩
  | succ m ih =>
    intro i hi hm hn
    by_cases h : ∀ q ∈ preds ops[i], lst listed q
    · exact ⟨i, ops[i], by simp [hi], hn, h⟩
    · have : ∃ q, q ∈ preds ops[i] ∧ ¬ lst listed q := by
        apply Classical.byContradiction
        intro hc
        exact h fun q hq => Classical.byContradiction fun hl => hc ⟨q, hq, hl⟩
      obtain ⟨q, hq, hl⟩ := this
      have hlt := R.back i ops[i] (by simp [hi]) q hq
      exact ih q (by omega) (by omega) hl

def coverB (ops : List Oper) (K : Vals) (es : List Nat) : Bool :=
  ops.zipIdx.all fun x => keyN x.2 K || (hasN x.2 es || (preds x.1).any fun j => !keyN j K)
def newB (newK K : Vals) : Bool := newK.all (fun e => !keyN e.1 K)
def nodupK : Vals → Bool
  | [] => true
  | e :: r => !keyN e.1 r && nodupK r

theorem nodupK_spec : ∀ {K : Vals}, nodupK K = true → ∀ i u v, (i, u) ∈ K → (i, v) ∈ K → u = v
  | [], _, _, _, _, h, _ => by simp at h
  | e :: r, hn, i, u, v, h1, h2 => by
    simp only [nodupK, Bool.and_eq_true] at hn
    have hk : ∀ v, (e.1, v) ∉ r := fun v hv => by
      have := keyN_iff.2 ⟨v, hv⟩
      simp [this] at hn
    rcases List.mem_cons.1 h1 with h1 | h1 <;> rcases List.mem_cons.1 h2 with h2 | h2
    · rw [← h1] at h2; simp at h2; exact h2.symm
    · exact absurd (by rw [← h1]; exact h2) (hk v)
    · exact absurd (by rw [← h2]; exact h1) (hk u)
    · exact nodupK_spec hn.2 i u v h1 h2

/-- More is known of what is to come. -/
theorem Inv.know (I : Inv n ops env K fx listed fuel a) (hn : newB newK K = true) (hl : ∀ e ∈ newK, e.1 < ops.length) : Inv n ops env (newK ++ K) fx listed fuel a := by
  refine { I with keys := fun i hi h => ?_, vals := fun e he h o ho d hd => ?_ }
  · obtain ⟨v, hv⟩ := I.keys i hi h; exact ⟨v, List.mem_append_right _ hv⟩
  · rcases List.mem_append.1 he with he' | he'
    · obtain ⟨v, hv⟩ := I.keys e.1 (hl e he') h
      have h1 := List.all_eq_true.1 hn e he'
      have h2 := keyN_iff.2 ⟨v, hv⟩
      simp [h2] at h1
    · exact I.vals e he' h o ho d hd

def chkRun (n : Fm) (ops : List Oper) (newK K : Vals) (es : List Nat) : Bool :=
  regOk n ops && (newB newK K && (newK.all (fun e => Nat.blt e.1 ops.length) && (nodupK (newK ++ K) && (coverB ops (newK ++ K) es && es.all fun e => !keyN e (newK ++ K) && Nat.blt e ops.length))))

def want1 (ops : Array Oper) (env : Slots) (o : Oper) : Bool := match wantE ops env o with
  | some true => true
  | _ => false
theorem want1_spec {ops : Array Oper} {env : Slots} {o : Oper} (h : want1 ops env o = true) : wantE ops env o = some true := by
  unfold want1 at h
  split at h
  · assumption
  · simp at h

/-- The next operation that turns memory: one of es; all that may come up before it is known. -/
theorem d_run (newK : Vals) (es : List Nat) (hc : chkRun n (opsAt c0 p).toList newK K es = true) (he : es.isEmpty = false)
    (hv : Evs P E n (opsAt c0 p) env L (newK ++ K) fx (newK ++ K))
    (go : ∀ i ∈ es, ∀ o, (opsAt c0 p)[i]? = some o → (known (envD (opsAt c0 p).toList env (newK ++ K) i) o && want1 (opsAt c0 p) (envD (opsAt c0 p).toList env (newK ++ K) i) o) = true ∧
      OT P E o (envD (opsAt c0 p).toList env (newK ++ K) i) L (fun v L' => DR P c0 fin E n p k (i :: fx) ((i, v) :: (newK ++ K)) env L')) :
    DR P c0 fin E n p k fx K env L := by
  simp only [chkRun, Bool.and_eq_true] at hc
  obtain ⟨hR, hnew, hlen, hnd, hcov, hes⟩ := hc
  have R := regOk_spec hR
  have hlen' : ∀ e ∈ newK, e.1 < (opsAt c0 p).toList.length := fun e he => by simpa [Nat.blt_eq] using List.all_eq_true.1 hlen e he
  have hev := hv.get
  intro a w fuel listed I s
  replace I := I.know hnew hlen'
  clear hnew hlen hlen' hv
  generalize newK ++ K = K at *
  have hesk : ∀ i ∈ es, (∀ v, (i, v) ∉ K) ∧ i < (opsAt c0 p).toList.length := fun i hi => by
    have := List.all_eq_true.1 hes i hi
    simp only [Bool.and_eq_true, Nat.blt_eq] at this
    refine ⟨fun v h => ?_, this.2⟩
    have h2 := keyN_iff.2 ⟨v, h⟩
    simp [h2] at this
  have hsome : ∃ i, i ∈ es := by
    cases es with
    | nil => simp at he
    | cons i r => exact ⟨i, by simp⟩
  obtain ⟨i0, hi0⟩ := hsome
  have unl : ∀ listed fuel a, Inv n (opsAt c0 p).toList env K fx listed fuel a → ¬ lst listed i0 := fun listed fuel a I h => by
    obtain ⟨v, hv⟩ := I.keys i0 (hesk i0 hi0).2 h
    exact (hesk i0 hi0).1 v hv
  induction fuel generalizing a listed with
  | zero =>
    exfalso
    have hc := I.count
    have : i0 ∈ (List.range (opsAt c0 p).toList.length).filter fun i => !listed.getD i false := by
      have h1 := unl _ _ _ I
      unfold lst at h1
      simp only [List.mem_filter, List.mem_range]
      exact ⟨(hesk i0 hi0).2, by simpa using h1⟩
    have := List.length_pos_of_mem this
    omega
  | succ fuel ih =>
    refine ⟨fun hr => ?_, fun i hi => ?_⟩
    · exfalso
      obtain ⟨j, o, ho, h1, h2⟩ := ready_some R _ i0 (hesk i0 hi0).2 (Nat.le_refl _) (unl _ _ _ I)
      have : j ∈ Region.ready .any (opsAt c0 p) listed := (mem_ready (by simpa using I.size)).2 ⟨o, by simpa using ho, h1, h2⟩
      rw [hr] at this; simp at this
    · obtain ⟨o, ho, h1, h2⟩ := (mem_ready (by simpa using I.size)).1 hi
      have ho' : (opsAt c0 p).toList[i]? = some o := by simpa using ho
      have hf := envD_fits I ho' h1 h2
      by_cases hk : ∃ v, (i, v) ∈ K
      · obtain ⟨v, hv⟩ := hk
        have I' := I.set (K' := K) (fx' := fx) R ho' h1 h2 (fun e he => .inl he) (fun e he => he) hv (fun u hu => nodupK_spec hnd i u v hu hv) (fun j hj => .inl hj)
        rcases hev (i, v) hv with h | h
        · exact absurd (I.done i h) h1
        · exact wpOpIn_known ho (h o ho a w hf s) (ih _ _ I')
      · have hnk : keyN i K = false := by
          cases h : keyN i K with
          | false => rfl
          | true => exact absurd (keyN_iff.1 h) hk
        have := List.all_eq_true.1 hcov (o, i) (List.mk_mem_zipIdx_iff_getElem?.2 ho')
        simp only [hnk, Bool.false_or, Bool.or_eq_true] at this
        rcases this with h | h
        · have hie := hasN_iff.1 h
          obtain ⟨hkw, ot⟩ := go i hie o ho
          simp only [Bool.and_eq_true] at hkw
          have hw : wantE (opsAt c0 p) (envD (opsAt c0 p).toList env K i) o = some true := want1_spec hkw.2
          simp only [wpOpIn, ho]
          rw [wantE_ok hf hw]
          refine ot _ a w _ _ (known_exec hf hkw.1) (known_nodefer hkw.1) s fun v w' L' d s' => ?_
          have hno : ∀ u, (i, u) ∉ K := fun u hu => hk ⟨u, hu⟩
          exact d _ w' fuel _ (I.set R ho' h1 h2 (fun e he => by
            rcases List.mem_cons.1 he with rfl | he
            · exact .inr rfl
            · exact .inl he) (fun e he => List.mem_cons_of_mem _ he) (by simp) (fun u hu => by
              rcases List.mem_cons.1 hu with h | h
              · simp at h; exact h
              · exact absurd h (hno u)) (fun j hj => by
              rcases List.mem_cons.1 hj with h | h
              · exact .inr h
              · exact .inl h)) s'
        · obtain ⟨j, hj, hjk⟩ := List.any_eq_true.1 h
          have hl := h2 j hj
          have hjl : j < (opsAt c0 p).toList.length := by
            have := R.back i o ho' j hj
            have := (List.getElem?_eq_some_iff.1 ho').1
            omega
          obtain ⟨v, hv⟩ := I.keys j hjl hl
          have := keyN_iff.2 ⟨v, hv⟩
          simp [this] at hjk

def endD (ops : List Oper) (env : Slots) (K : Vals) : Slots :=
  (K.filterMap fun e => match ops[e.1]? with
    | some oj => oj.dst.map fun d => (d, e.2)
    | none => none) ++
  env.filter fun s => ops.all fun oj => match oj.dst with
    | none => true
    | some d => !(Nat.beq d s.1)

def chkEnd (n : Fm) (ops : List Oper) (newK K : Vals) : Bool :=
  regOk n ops && (newB newK K && (newK.all (fun e => Nat.blt e.1 ops.length) && (nodupK (newK ++ K) && ops.zipIdx.all fun x => keyN x.2 (newK ++ K))))

/-- No more that turn memory. -/
theorem d_end (newK : Vals) (env' : Slots) (hc : chkEnd n (opsAt c0 p).toList newK K = true) (hv : Evs P E n (opsAt c0 p) env L (newK ++ K) fx (newK ++ K))
    (hk : (env'.map fun q => look (endD (opsAt c0 p).toList env (newK ++ K)) q.1) = env'.map fun q => some q.2)
    (g : G P c0 fin E n k env' L) : DR P c0 fin E n p k fx K env L := by
  simp only [chkEnd, Bool.and_eq_true] at hc
  obtain ⟨hR, hnew, hlen, hnd, hall⟩ := hc
  have R := regOk_spec hR
  have hlen' : ∀ e ∈ newK, e.1 < (opsAt c0 p).toList.length := fun e he => by simpa [Nat.blt_eq] using List.all_eq_true.1 hlen e he
  have hev := hv.get
  intro a w fuel listed I s
  replace I := I.know hnew hlen'
  clear hnew hlen hlen' hv
  generalize newK ++ K = K at *
  have key : ∀ i, i < (opsAt c0 p).toList.length → ∃ v, (i, v) ∈ K := fun i hi => by
    have := List.all_eq_true.1 hall ((opsAt c0 p).toList[i], i) (List.mk_mem_zipIdx_iff_getElem?.2 (by rw [List.getElem?_eq_getElem hi]))
    exact keyN_iff.1 this
  have fin' : ∀ fuel listed a, Inv n (opsAt c0 p).toList env K fx listed fuel a → (∀ i, i < (opsAt c0 p).toList.length → lst listed i) → denE P c0 n.rd fin .normal k a w := by
    intro fuel listed a I hl
    refine g a w (Fits.less (env := endD (opsAt c0 p).toList env K) ⟨I.tmps, I.defers, fun t ht => ?_⟩ hk) s
    simp only [endD, List.mem_append, List.mem_filterMap, List.mem_filter] at ht
    rcases ht with ⟨e, he, h⟩ | ⟨ht, h⟩
    · split at h
      · rename_i oj hoj
        simp only [Option.map_eq_some_iff] at h
        obtain ⟨d, hd, rfl⟩ := h
        exact I.vals e he (hl e.1 (List.getElem?_eq_some_iff.1 hoj).1) oj hoj d hd
      · simp at h
    · refine I.env t ht fun j oj hoj _ hd => ?_
      have := List.all_eq_true.1 h oj (List.mem_of_getElem? hoj)
      simp [hd] at this
  induction fuel generalizing a listed with
  | zero =>
    have hl : ∀ i, i < (opsAt c0 p).toList.length → lst listed i := fun i hi => by
      apply Classical.byContradiction
      intro hn
      have : i ∈ (List.range (opsAt c0 p).toList.length).filter fun i => !listed.getD i false := by
        unfold lst at hn
        simp only [List.mem_filter, List.mem_range]
        exact ⟨hi, by simpa using hn⟩
      have := List.length_pos_of_mem this
      have := I.count
      omega
    refine ⟨?_, fin' _ _ _ I hl⟩
    cases hr : Region.ready .any (opsAt c0 p) listed with
    | nil => rfl
    | cons i r =>
      obtain ⟨o, ho, h1, _⟩ := (mem_ready (by simpa using I.size)).1 (by rw [hr]; simp : i ∈ Region.ready .any (opsAt c0 p) listed)
      exact absurd (hl i (by simpa using (Array.getElem?_eq_some_iff.1 ho).1)) h1
  | succ fuel ih =>
    refine ⟨fun hr => ?_, fun i hi => ?_⟩
    · refine fin' _ _ _ I fun i hi => ?_
      apply Classical.byContradiction
      intro hn
      obtain ⟨j, o, ho, h1, h2⟩ := ready_some R _ i hi (Nat.le_refl _) hn
      have : j ∈ Region.ready .any (opsAt c0 p) listed := (mem_ready (by simpa using I.size)).2 ⟨o, by simpa using ho, h1, h2⟩
      rw [hr] at this; simp at this
    · obtain ⟨o, ho, h1, h2⟩ := (mem_ready (by simpa using I.size)).1 hi
      have ho' : (opsAt c0 p).toList[i]? = some o := by simpa using ho
      have hf := envD_fits I ho' h1 h2
      obtain ⟨v, hv⟩ := key i (List.getElem?_eq_some_iff.1 ho').1
      have I' := I.set (K' := K) (fx' := fx) R ho' h1 h2 (fun e he => .inl he) (fun e he => he) hv (fun u hu => nodupK_spec hnd i u v hu hv) (fun j hj => .inl hj)
      rcases hev (i, v) hv with h | h
      · exact absurd (I.done i h) h1
      · exact wpOpIn_known ho (h o ho a w hf s) (ih _ _ I')

end Go.Sl
