/- Contracts, calls, loops, the ways in and out of a function, and the moves between assertions. -/
import Derived.Test.YtkhkdedngnneiaaGreatSlOps
import Derived.Deep.LoopGhost
namespace Go.Sl

variable {n : Fm} {a : Act} {env env' : Slots} {P : Program} {c0 : Code} {fin : Act → World → Prop} {w : World}
variable {E : Env} {L L' : List Chunk} {todo todo' k : List It} {o : Oper}

/-- A contract: what the call asks of memory, what it hands back, what it leaves. Whatever else there is stays. -/
def Ct (P : Program) (f : FuncId) (args : List Value) (pre : List Chunk) {β : Type} (rv : β → Value) (post : β → List Chunk) : Prop :=
  ∀ (E : Env) (R : SP) (w : World), sat E w (pre ++ [.sp R]) →
    Calls P f args.toArray w fun e w' => ∃ x, e = .returned (rv x) ∧ sat E w' (post x ++ [.sp R])

def restOf (is : List Nat) (L : List Chunk) : List Chunk := match takes is L with
  | some (_, B) => B
  | none => []

theorem sat_takes {is : List Nat} {A : List Chunk} (h : (match takes is L with | some (A, _) => some A | none => none) = some A) (s : sat E w L) : sat E w (A ++ restOf is L) := by
  unfold restOf
  split at h
  · rename_i A' B hA
    simp at h; subst h
    exact s.perm (by simpa [hA] using takes_perm hA)
  · simp at h

def takeOf (is : List Nat) (L : List Chunk) : Option (List Chunk) := match takes is L with
  | some (A, _) => some A
  | none => none

theorem sat_takeOf {is : List Nat} {A : List Chunk} (h : takeOf is L = some A) (s : sat E w L) : sat E w (A ++ restOf is L) := sat_takes h s

/-- The function that a call names, and what it hands over. -/
def callE (P : Program) (env : Slots) (o : Oper) : Option (FuncId × List Value) := match pureS P (execOp (evalD env) o) with
  | some (.enter f args) => some (f, args.toList)
  | _ => none

theorem ot_call {K : Value → List Chunk → Prop} {f : FuncId} {args : List Value} {pre : List Chunk} {β : Type} {rv : β → Value} {post : β → List Chunk}
    (is : List Nat) (c : Ct P f args pre rv post) (h1 : callE P env o = some (f, args)) (h2 : takeOf is L = some pre)
    (g : ∀ x, K (rv x) (post x ++ restOf is L)) : OT P E o env L K := by
  intro r a w next Q he hd s hn
  unfold callE at h1
  split at h1
  · rename_i f' args' hp
    simp at h1; obtain ⟨rfl, rfl⟩ := h1
    refine ⟨fun _ _ => trivial, ?_⟩
    rw [Oper.semAt_eq _ _ _ hd, he]
    simp only [pureS_run hp w, Oper.uponIn]
    have s1 := (sat_takeOf h2 s).frame
    have hc := c E _ w s1
    simp only [Array.toArray_toList] at hc
    refine ⟨fun h => by simp [Fence.wide] at h, ?_⟩
    have hc2 : CallsIn (Fr r) (0 - 1) P f' args' w _ := callsIn_wide.2 hc
    refine hc2.mono ?_
    rintro e w' ⟨x, rfl, s'⟩
    exact hn _ w' _ (g x) s'.unframe
  · simp at h1

/-! Loops. -/

/-- What a round hands on: the same, at a smaller number. -/
def stopM {α : Type} (I : α → Slots × List Chunk) (μ : α → Nat) (n : Fm) (E : Env) (x : α) (a : Act) (w : World) : Prop := ∃ y, μ y < μ x ∧ Fits n a (I y).1 ∧ sat E w (I y).2

theorem wpIn_loop_ghost {r : Option Nat} {Q : Exit → Act → World → Prop} {c : Code} (I : Nat → Act → World → Prop) (n₀ : Nat) (h₀ : I n₀ a w)
    (round : ∀ n a w, I n a w → c.wpIn (Fr r) 0 P (Exit.then (fun a' w' => ∃ n', n' < n ∧ I n' a' w') Q) a w) : (Code.loop c).wpIn (Fr r) 0 P Q a w := by
  refine wpIn_loop (fun a w => ∃ n, I n a w) (fun a w => leastOf (fun n => I n a w)) ⟨n₀, h₀⟩ ?_
  intro a w hI
  refine wpIn_mono (round _ a w (leastOf_spec hI).1) ?_
  intro e a' w' hq
  cases e with
  | normal =>
    obtain ⟨n', hlt, hI'⟩ := hq
    exact ⟨⟨n', hI'⟩, Nat.lt_of_le_of_lt ((leastOf_spec ⟨n', hI'⟩).2 n' hI') hlt⟩
  | exit id => exact hq
  | goto l => exact hq
  | ret => exact hq
  | panic ch => exact hq
  | outgrown => exact hq

theorem g_loop {α : Type} (I : α → Slots × List Chunk) (μ : α → Nat) {p : Nat} (x0 : α) (hp : (match codeAt c0 (p + 1) with | some (.loop _) => true | _ => false) = true)
    (h0 : ∀ a w, Fits n a env → sat E w L → Fits n a (I x0).1 ∧ sat E w (I x0).2)
    (round : ∀ x, G P c0 fin E n (.c (2 * (p + 1)) :: .stop (stopM I μ n E x) :: k) (I x).1 (I x).2) :
    G P c0 fin E n (.c (p + 1) :: k) env L := by
  intro a w f s
  split at hp
  · rename_i c hc
    rw [denE_c hc]
    obtain ⟨f0, s0⟩ := h0 a w f s
    refine wpIn_loop_ghost (fun m a w => ∃ x, μ x = m ∧ Fits n a (I x).1 ∧ sat E w (I x).2) (μ x0) ⟨x0, rfl, f0, s0⟩ ?_
    rintro _ a w ⟨x, rfl, f, s⟩
    obtain ⟨c', hc', hw⟩ := denE_c' (round x a w f s)
    have := kid0 hc (by omega) hc'; simp [child] at this; subst this
    refine wpIn_mono hw fun e a' w' d => ?_
    cases e with
    | normal => simp only [denE] at d; obtain ⟨y, h1, h2, h3⟩ := d; exact ⟨μ y, h1, y, rfl, h2, h3⟩
    | exit id => simpa [denE, Exit.then] using d
    | goto l => simp [denE] at d
    | ret => simpa [denE, Exit.then] using d
    | panic ch => simp [denE] at d
    | outgrown => simp [denE] at d
  · simp at hp

/-- The end of a round. -/
theorem g_stop {M : Act → World → Prop} (h : ∀ a w, Fits n a env → sat E w L → M a w) : G P c0 fin E n (.stop M :: k) env L := by
  intro a w f s
  simpa [denE] using h a w f s

theorem sat.left {A B : List Chunk} (s : sat E w (A ++ B)) : sat E w A := by
  obtain ⟨a, b, c, h, k, d⟩ := s
  obtain ⟨x, y, _, rfl, p, _⟩ := dens_append.1 d
  exact ⟨a, b, c, x, hsub_left k, p⟩

theorem sat_some {is : List Nat} {A : List Chunk} (h : takeOf is L = some A) (s : sat E w L) : sat E w A := (sat_takeOf h s).left

/-- The end of a round of a loop: the next state, by the places of its chunks. -/
theorem g_round {α : Type} {I : α → Slots × List Chunk} {μ : α → Nat} {x : α} (y : α) (is : List Nat) (hm : μ y < μ x) (h1 : ((I y).1.map fun p => look env p.1) = (I y).1.map fun p => some p.2) (h2 : takeOf is L = some (I y).2) :
    G P c0 fin E n (.stop (stopM I μ n E x) :: k) env L :=
  g_stop fun _ _ f s => ⟨y, hm, f.less h1, sat_some h2 s⟩

theorem g_loop' {α : Type} (I : α → Slots × List Chunk) (μ : α → Nat) {p : Nat} (x0 : α) (is : List Nat) (hp : (match codeAt c0 (p + 1) with | some (.loop _) => true | _ => false) = true)
    (h1 : ((I x0).1.map fun p => look env p.1) = (I x0).1.map fun p => some p.2) (h2 : takeOf is L = some (I x0).2)
    (round : ∀ x, G P c0 fin E n (.c (2 * (p + 1)) :: .stop (stopM I μ n E x) :: k) (I x).1 (I x).2) :
    G P c0 fin E n (.c (p + 1) :: k) env L :=
  g_loop I μ x0 hp (fun _ _ f s => ⟨f.less h1, sat_some h2 s⟩) round

/-! In and out. -/

def params : Nat → List Value → Slots
  | _, [] => []
  | i, v :: r => (i, v) :: params (i + 1) r

theorem params_mem : ∀ {l : List Value} {i : Nat} {p : Nat × Value}, p ∈ params i l → ∃ j, l[j]? = some p.2 ∧ p.1 = i + j := by
  intro l
  induction l with
  | nil => intro i p h; simp [params] at h
  | cons v r ih =>
    intro i p h
    simp only [params, List.mem_cons] at h
    rcases h with rfl | h
    · exact ⟨0, by simp, rfl⟩
    · obtain ⟨j, h1, h2⟩ := ih h
      exact ⟨j + 1, by simpa using h1, by omega⟩

/-- A function's end: its deferred marks taken, its results read. -/
def finR (P : Program) (fn : Func) (R : Ending → World → Prop) (a : Act) (w : World) : Prop := LeavesInM Fence.wide 0 P fn a.tmps R a.defers .returning w

theorem calls_intro {m : Nat} {f : FuncId} {fn : Func} {args : List Value} {R : Ending → World → Prop} (hf : P.funcs[f]? = some fn) (hb : fn.body = some c0) (hn : fn.ntmps = m) (hl : Nat.ble args.length m = true)
    (g : G P c0 (finR P fn R) E ⟨m, none, []⟩ [.c 1] (params 0 args) L) (s : sat E w L) : Calls P f args.toArray w R := by
  refine (callsIn_wide (n := 0)).1 (callsIn_of_wp_marks hf hb trivial ?_)
  have hl' := Nat.le_of_ble_eq_true hl
  have h1 : codeAt c0 1 = some c0 := rfl
  have d := g { tmps := args.toArray ++ Array.replicate (fn.ntmps - args.toArray.size) undef, defers := [] } w ⟨by simp [hn]; omega, rfl, fun p hp => ?_⟩ s
  · rw [denE_c h1] at d
    refine wpIn_mono d fun e a w q => ?_
    cases e with
    | normal => exact q
    | ret => exact q.2
    | exit id => simp [denE] at q
    | goto l => simp [denE] at q
    | panic c => simp [denE] at q
    | outgrown => simp [denE] at q
  · obtain ⟨j, h2, h3⟩ := params_mem hp
    have hj := (List.getElem?_eq_some_iff.1 h2).1
    rw [h3, Nat.zero_add, Array.getElem?_append_left (by simpa using hj)]
    simpa using h2

def codeOf (fn : Func) : Code := match fn.body with
  | some c => c
  | none => .skip

theorem ct_intro {f : FuncId} (fn : Func) {args : List Value} {pre : List Chunk} {β : Type} {rv : β → Value} {post : β → List Chunk} (n : Nat)
    (hf : P.funcs[f]? = some fn) (hb : fn.body.isSome = true) (hn : fn.ntmps = n) (hl : Nat.ble args.length n = true)
    (g : ∀ (E : Env) (R : SP), G P (codeOf fn) (finR P fn (fun e w' => ∃ x, e = .returned (rv x) ∧ sat E w' (post x ++ [.sp R]))) E ⟨n, none, []⟩ [.c 1] (params 0 args) (pre ++ [.sp R])) :
    Ct P f args pre rv post := fun E R _ s => calls_intro hf (by unfold codeOf; cases h : fn.body with | none => simp [h] at hb | some c => rfl) hn hl (g E R) s

/-- What the result variables read as. -/
inductive ResOK (P : Program) (env : Slots) (L : List Chunk) : List ResultVar → List Value → Prop where
  | nil : ResOK P env L [] []
  | tmp {t : Nat} {v : Value} {rs : List ResultVar} {vs : List Value} (h : look env t = some v) (r : ResOK P env L rs vs) : ResOK P env L (.tmp t :: rs) (v :: vs)
  | cell {s t ci b : Nat} {u : List Value} {rs : List ResultVar} {vs : List Value} (h : look env s = some (.pointer (some ⟨b, 0, none⟩))) (ha : pureS P (isAgg t) = some true)
      (hs : pureS P (sizeOf t) = some u.length) (hc : cellsOf L ci 0 u.length = some (b, u)) (r : ResOK P env L rs vs) : ResOK P env L (.cell s t :: rs) (.agg u.toArray :: vs)

def resV : List Value → Value
  | [v] => v
  | l => .tuple l.toArray

def resF (tmps : Array Value) : ResultVar → Sem Value
  | .tmp t => pure (tmps.getD t undef)
  | .cell a t => do loadVar t (← asAddr (tmps.getD a undef))

theorem resOK_run {rs : List ResultVar} {vs : List Value} (h : ResOK P env L rs vs) (f : Fits n a env) (s : sat E w L) :
    (rs.mapM (resF a.tmps)).run P w = .ok vs w := by
  induction h with
  | nil => simp
  | @tmp t v rs vs h r ih =>
    have := f.look h
    rw [List.mapM_cons]
    simp [resF, this]
    rw [ih]; rfl
  | @cell x t ci b u rs vs h ha hs hc r ih =>
    have hx := f.look h
    have hr := run_loadCells_list (P := P) w ⟨b, 0, none⟩ u (fun j v hj => by
      rw [add_off]
      unfold cellsOf at hc
      split at hc
      · rename_i b' C t fz hcc
        split at hc
        · simp only [Option.some.injEq, Prod.mk.injEq] at hc
          obtain ⟨rfl, h3⟩ := hc
          have hjl : j < u.length := (List.getElem?_eq_some_iff.1 hj).1
          rw [← h3, List.getElem?_take, List.getElem?_drop] at hj
          split at hj
          · simp [World.cell?, sat_obj hcc s]; simpa using hj
          · exact absurd hjl (by assumption)
        · simp at hc
      · simp at hc)
    have hl : (loadVar t ⟨b, 0, none⟩).run P w = .ok (.agg u.toArray) w := by
      simp [loadVar, pureS_run ha, pureS_run hs, hr]
    rw [List.mapM_cons]
    simp [resF, hx, asAddr, hl]
    rw [ih]; rfl

theorem results_run {fn : Func} {vs : List Value} (hr : ResOK P env L fn.results.toList vs) (f : Fits n a env) (s : sat E w L) : (results fn a.tmps).run P w = .ok (resV vs) w := by
  have h := resOK_run hr f s
  change (do let vs ← fn.results.mapM (resF a.tmps); pure (if h : vs.size = 1 then vs[0] else .tuple vs) : Sem Value).run P w = _
  rw [Array.mapM_eq_mapM_toList]
  simp only [Sem.run_bind, Sem.run_map, h, Result.andThen_ok, Sem.run_pure]
  match vs with
  | [] => rfl
  | [v] => rfl
  | u :: v :: r => simp [resV]

theorem g_ret {m : Nat} {ro : Option Nat} {fn : Func} {R : Ending → World → Prop} (vs : List Value) (hr : ResOK P env L fn.results.toList vs)
    (hR : ∀ w, sat E w L → R (.returned (resV vs)) w) : G P c0 (finR P fn R) E ⟨m, ro, []⟩ [] env L := by
  intro a w f s
  have h0 : a.defers = [] := f.2.1
  show finR P fn R a w
  unfold finR
  rw [h0]
  exact ⟨_, results_run hr f s, hR w s⟩

/-- A function's end: its contract met. -/
theorem g_post {m : Nat} {ro : Option Nat} {fn : Func} {β : Type} {rv : β → Value} {post : β → List Chunk} {R : SP} (x : β) (is : List Nat) (vs : List Value) (hr : ResOK P env L fn.results.toList vs)
    (hv : resV vs = rv x) (h2 : takeOf is L = some (post x ++ [.sp R])) :
    G P c0 (finR P fn (fun e w' => ∃ x, e = .returned (rv x) ∧ sat E w' (post x ++ [.sp R]))) E ⟨m, ro, []⟩ [] env L :=
  g_ret vs hr fun _ s => ⟨x, by rw [hv], sat_some h2 s⟩


/-! Moves between assertions, and cases. -/

theorem g_perm (is : List Nat) (A : List Chunk) (h : takeOf is L = some A) (g : G P c0 fin E n todo env (A ++ restOf is L)) : G P c0 fin E n todo env L :=
  fun a w f s => g a w f (sat_takeOf h s)
/-- Another way to say what memory holds. -/
theorem g_imp (h : ∀ w, sat E w L → sat E w L') (g : G P c0 fin E n todo env L') : G P c0 fin E n todo env L := fun a w f s => g a w f (h w s)
theorem g_eq (h : L = L') (g : G P c0 fin E n todo env L') : G P c0 fin E n todo env L := h ▸ g

def chunkAt (L : List Chunk) (ci : Nat) : Option Chunk := L[ci]?

theorem g_open {α : Type} (ci : Nat) (F : α → List Chunk) (h : chunkAt L ci = some (.sp (ex F))) (g : ∀ x, G P c0 fin E n todo env (F x ++ L.eraseIdx ci)) : G P c0 fin E n todo env L :=
  fun a w f s => let ⟨x, s'⟩ := (sat_front h s).open; g x a w f s'
theorem g_close {α : Type} (F : α → List Chunk) (x : α) (is : List Nat) (h : takeOf is L = some (F x)) (g : G P c0 fin E n todo env (.sp (ex F) :: restOf is L)) : G P c0 fin E n todo env L :=
  fun a w f s => g a w f (sat.close x (sat_takeOf h s))
theorem g_prp (ci : Nat) (p : Prop) (h : chunkAt L ci = some (.prp p)) (g : p → G P c0 fin E n todo env (L.eraseIdx ci)) : G P c0 fin E n todo env L :=
  fun a w f s => let s' := sat_front h s; g s'.head_prp a w f s'.tail
theorem g_add {p : Prop} (hp : p) (g : G P c0 fin E n todo env (.prp p :: L)) : G P c0 fin E n todo env L := fun a w f s => g a w f (s.add_prp hp)
theorem g_pack (is : List Nat) (A : List Chunk) (h : takeOf is L = some A) (g : G P c0 fin E n todo env (.sp (dens A) :: restOf is L)) : G P c0 fin E n todo env L :=
  fun a w f s => g a w f (sat_takeOf h s).pack
theorem g_unpack (ci : Nat) (A : List Chunk) (h : chunkAt L ci = some (.sp (dens A))) (g : G P c0 fin E n todo env (A ++ L.eraseIdx ci)) : G P c0 fin E n todo env L :=
  fun a w f s => g a w f (sat_front h s).unpack
/-- A slot's value by another name. -/
theorem g_val (d : Nat) (v v' : Value) (h : v = v') (h1 : look env d = some v) (g : G P c0 fin E n todo (putE (some d) v' env) L) : G P c0 fin E n todo env L := by
  intro a w f s
  refine g a w ⟨f.1, f.2.1, fun p hp => ?_⟩ s
  simp only [putE, List.mem_cons] at hp
  rcases hp with rfl | hp
  · rw [← h]; exact f.look h1
  · exact f.2.2 p (cut_mem hp).1
/-- A test's outcome laid into its slot. -/
theorem g_bool (d : Nat) (b : Bool) (h1 : look env d = some (.bool b)) (gt : b = true → G P c0 fin E n todo (putE (some d) (.bool true) env) L)
    (gf : b = false → G P c0 fin E n todo (putE (some d) (.bool false) env) L) : G P c0 fin E n todo env L := by
  cases hb : b with
  | true => exact g_val d _ _ (by rw [hb]) h1 (gt hb)
  | false => exact g_val d _ _ (by rw [hb]) h1 (gf hb)

end Go.Sl
