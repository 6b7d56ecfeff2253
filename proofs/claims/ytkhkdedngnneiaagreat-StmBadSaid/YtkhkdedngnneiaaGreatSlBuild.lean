/- Rows of one thing many times, copies, several effects at once, maps. -/
import Derived.Test.YtkhkdedngnneiaaGreatSlMore
import Derived.Test.YtkhkdedngnneiaaGreatSlDr2
namespace Go.Sl

variable {n : Fm} {a : Act} {env env' : Slots} {P : Program} {c0 : Code} {fin : Act → World → Prop} {w : World}
variable {E : Env} {L L' : List Chunk} {todo todo' k : List It} {o : Oper}
variable {α : Type} {T sz : Nat} {enc : α → List Value} {ad : Option Addr} {cap : Nat} {l : List α} {X : SP}

/-! Several effects, any of which may be next. -/
def AllOT (P : Program) (c0 : Code) (fin : Act → World → Prop) (E : Env) (n : Fm) (p : Nat) (k : List It) (fx : List Nat) (K : Vals) (env : Slots) (L : List Chunk) : List Nat → Prop
  | [] => True
  | e :: es => OT P E (opAt c0 p e) (envD (opsAt c0 p).toList env K e) L (fun v L' => DR P c0 fin E n p k (e :: fx) ((e, v) :: K) env L') ∧ AllOT P c0 fin E n p k fx K env L es
theorem AllOT.get {p : Nat} {fx : List Nat} {K : Vals} : ∀ {es : List Nat}, AllOT P c0 fin E n p k fx K env L es → ∀ i ∈ es, OT P E (opAt c0 p i) (envD (opsAt c0 p).toList env K i) L (fun v L' => DR P c0 fin E n p k (i :: fx) ((i, v) :: K) env L')
  | [], _, i, h => by simp at h
  | e :: es, ⟨h1, h2⟩, i, h => by
    rcases List.mem_cons.1 h with rfl | h
    · exact h1
    · exact h2.get i h
theorem d_runs {p : Nat} {fx : List Nat} {K : Vals} (newK : Vals) (es : List Nat) (hc : chkRun n (opsAt c0 p).toList newK K es = true) (he : es.isEmpty = false) (hv : Evs P E n (opsAt c0 p) env L (newK ++ K) fx (newK ++ K))
    (hf : (es.all fun e => fxK c0 p env (newK ++ K) e) = true) (ot : AllOT P c0 fin E n p k fx (newK ++ K) env L es) : DR P c0 fin E n p k fx K env L := by
  refine d_run newK es hc he hv fun i hi o ho => ?_
  have h1 := List.all_eq_true.1 hf i hi
  have h2 := ot.get i hi
  have : opAt c0 p i = o := by simp [opAt, ho]
  rw [this] at h2
  exact ⟨by simpa [fxK, ho] using h1, h2⟩

/-! Several cells at once, where an order is drawn. -/
theorem evOK_loadG_at {K : Vals} {ops : Array Oper} {q : Nat} (b off : Nat) (vs : List Value)
    (h1 : (match ops[q]? with | some o => (match wantE ops (envD ops.toList env K q) o, known (envD ops.toList env K q) o with | some true, true => ldG P (envD ops.toList env K q) o | _, _ => none) | none => none) = some (.pointer (some ⟨b, off, none⟩), vs.length))
    (h2 : ∀ w, sat E w L → ∀ j v, vs[j]? = some v → w.cell? ⟨b, off + j, none⟩ = some v) : EvOK P E n ops env L K q (.agg vs.toArray) := by
  intro o ho a w f s
  rw [ho] at h1
  simp only at h1
  split at h1
  · rename_i hw hk
    refine .inl ⟨wantE_ok f hw, ?_⟩
    rw [known_exec f hk]
    generalize envD ops.toList env K q = e at *
    unfold ldG at h1
    split at h1
    · rename_i t x ho
      split at h1
      · rename_i m v hagg hsz hv
        simp at h1
        obtain ⟨rfl, rfl⟩ := h1
        have hx : evalD e x = .pointer (some ⟨b, off, none⟩) := by simp [evalD, hv]
        simp only [execOp, ho, hx, Instr.loadAt, Instr.sureAddr, loadVar]
        have hr := run_loadCells_list (P := P) w ⟨b, off, none⟩ vs (fun j v hj => by rw [add_off]; exact h2 w s j v hj)
        simp [pureS_run hagg, pureS_run hsz, hr]
      · simp at h1
    · simp at h1
  · simp at h1
theorem cellsOf_cell {ci b off : Nat} {vs : List Value} (h2 : cellsOf L ci off vs.length = some (b, vs)) (w : World) (s : sat E w L) (j : Nat) (v : Value) (hj : vs[j]? = some v) : w.cell? ⟨b, off + j, none⟩ = some v := by
  unfold cellsOf at h2
  split at h2
  · rename_i b' C t fz hc
    split at h2
    · simp only [Option.some.injEq, Prod.mk.injEq] at h2
      obtain ⟨rfl, h3⟩ := h2
      have hjl : j < vs.length := (List.getElem?_eq_some_iff.1 hj).1
      have : C.toList[off + j]? = some v := by
        rw [← h3, List.getElem?_take, List.getElem?_drop] at hj
        split at hj
        · exact hj
        · exact absurd hjl (by assumption)
      simp [World.cell?, sat_obj hc s]
      simpa using this
    · simp at h2
  · simp at h2
theorem evOK_loadG {K : Vals} {ops : Array Oper} {q : Nat} (ci b off : Nat) (vs : List Value)
    (h1 : (match ops[q]? with | some o => (match wantE ops (envD ops.toList env K q) o, known (envD ops.toList env K q) o with | some true, true => ldG P (envD ops.toList env K q) o | _, _ => none) | none => none) = some (.pointer (some ⟨b, off, none⟩), vs.length))
    (h2 : cellsOf L ci off vs.length = some (b, vs)) : EvOK P E n ops env L K q (.agg vs.toArray) := evOK_loadG_at b off vs h1 (cellsOf_cell h2)

/-! make, of a length that is a number. -/
theorem ot_makeZ {K : Value → List Chunk → Prop} {β : Type} (z0 : Int) (len : Nat) (enc : β → List Value) (x0 : β) (e size bytes : Nat) (z : Array Value)
    (h1 : mkE P env o = some (.int .i64 z0, .int .i64 z0, e, size, bytes, z)) (hz0 : z0 = len) (hk : ∀ x, (enc x).length = size) (hz : enc x0 = z.toList) (hb : len * bytes ≤ 281474976710656) (hl : len ≤ 9223372036854775807)
    (g : ∀ b, K (.slice (some ⟨b, 0, none⟩) (List.replicate len x0).length len) (.sp (Sl e size enc (some ⟨b, 0, none⟩) len (List.replicate len x0)) :: L)) : OT P E o env L K := by
  subst hz0; exact ot_make len enc x0 e size bytes z h1 hk hz hb hl g

/-! copy -/
theorem Reads.firstN {ci m : Nat} {ys : List α} {ya : Option Addr} {yl yc : Nat} (r : Reads X sz enc ya ys) (h : chunkAt L ci = some (.sp X)) (hm' : m ≤ ys.length) (s : sat E w L) :
    (Builtin.firstCells sz m (.slice ya yl yc)).run P w = .ok ((ys.take m).flatMap enc).toArray w := by
  obtain ⟨q, hm, hx⟩ := sat_sp h s
  obtain ⟨hk, rfl | ⟨b, pre, post, T, fz, rfl, hb⟩⟩ := r q hx
  · have : m = 0 := by simpa using hm'
    subst this
    cases ya <;> simp [Builtin.firstCells, loadCells, loadCellsFrom]
  · have hl : ((ys.take m).flatMap enc).length = m * sz := by rw [flat_len hk, List.length_take, Nat.min_eq_left hm']
    have := run_loadCells_list (P := P) w ⟨b, pre.length, none⟩ ((ys.take m).flatMap enc) (fun j v hj => by
      rw [add_off]
      have hlt := (List.getElem?_eq_some_iff.1 hj).1
      rw [← flat_take hk] at hj
      have hj2 : (ys.flatMap enc)[j]? = some v := by rw [List.getElem?_take] at hj; split at hj <;> simp_all
      have hlt2 := (List.getElem?_eq_some_iff.1 hj2).1
      have hc : (pre ++ ys.flatMap enc ++ post)[pre.length + j]? = some v := by
        rw [List.append_assoc, List.getElem?_append_right (by omega), Nat.add_sub_cancel_left, List.getElem?_append_left hlt2]
        exact hj2
      simp only [World.cell?, hm _ _ hb]
      simpa using hc)
    rw [hl] at this
    simp only [Builtin.firstCells]
    exact this

def cpE (P : Program) (env : Slots) (o : Oper) : Option (Value × Value × Nat × Nat) := match o.op with
  | .call { callee := .builtin .copy, args, argTypes } => match args.toList, argTypes.toList with
    | [x, y], [t, _] => match evalE env x, evalE env y, pureS P (underlying t) with
      | some v, some u, some (.slice e) => match P.info? e with
        | some i => some (v, u, e, i.size)
        | none => none
      | _, _, _ => none
    | _, _ => none
  | _ => none

theorem cpE_spec {v u : Value} {e s : Nat} (h : cpE P env o = some (v, u, e, s)) : ∃ x y t t' i ty, evalD env x = v ∧ evalD env y = u ∧ pureS P (underlying t) = some (.slice e) ∧ P.info? e = some i ∧ i.size = s ∧
    (execOp (evalD env) o) = (do let r ← Builtin.copy_ #[t, t'] ty #[v, u]; pure (.value r)) := by
  unfold cpE at h
  split at h
  · rename_i args argTypes ho
    split at h
    · rename_i x y t t' ha ht
      split at h
      · rename_i v' u' e' hx hy hu
        split at h
        · rename_i i hi
          simp at h; obtain ⟨rfl, rfl, rfl, rfl⟩ := h
          have ea : args = #[x, y] := by rw [← ha]
          have et : argTypes = #[t, t'] := by rw [← ht]
          refine ⟨x, y, t, t', i, o.type, by simp [evalD, hx], by simp [evalD, hy], hu, hi, rfl, ?_⟩
          simp only [execOp, ho, resolve, invoke, builtin, ea, et]
          simp [evalD, hx, hy]
        · simp at h
      · simp at h
    · simp at h
  · simp at h

/-- copy, of no more than there is room for. -/
theorem ot_copy {K : Value → List Chunk → Prop} (ci cj : Nat) {Y : SP} {ys : List α} {ya : Option Addr} {yc : Nat} (r : Reads Y sz enc ya ys)
    (h : chunkAt L ci = some (.sp (Sl T sz enc ad cap l))) (hj : chunkAt L cj = some (.sp Y)) (h1 : cpE P env o = some (.slice ad l.length cap, .slice ya ys.length yc, T, sz))
    (h1s : ∀ x, (enc x).all oneB = true) (hle : ys.length ≤ l.length)
    (g : K (.int .i64 ys.length) (L.set ci (.sp (Sl T sz enc ad cap (ys ++ l.drop ys.length))))) : OT P E o env L K := by
  refine ot_run fun w s => ?_
  obtain ⟨x, y, t, t', i, ty, hx, hy, hu, hi, rfl, he⟩ := cpE_spec h1
  have hfy := r.firstN (P := P) (m := ys.length) (yl := ys.length) (yc := yc) hj (Nat.le_refl _) s
  rw [List.take_length] at hfy
  have hlen : (Builtin.lenOf (.slice ya ys.length yc)).run P w = .ok ys.length w := by simp [Builtin.lenOf]
  have hmin : Nat.min ys.length l.length = ys.length := Nat.min_eq_left hle
  obtain ⟨a1, a2, a3, kk, hk, hx', hy', d, rfl, ⟨hsz, hcap, hd⟩, q⟩ := sat_front h s
  rcases hd with ⟨hc0, rfl⟩ | ⟨b, pre, post, rfl, hpost, rfl⟩
  · have e1 : l = [] := List.length_eq_zero_iff.1 (by omega)
    subst e1
    have e2 : ys = [] := List.length_eq_zero_iff.1 (by simpa using hle)
    subst e2; subst hc0
    refine ⟨_, w, _, ?_, g, ?_⟩
    · rw [he]
      simp only [List.length_nil] at hfy hlen
      cases ad <;> simp [Builtin.copy_, run_underlying' hu, sizeOf, typeInfo, hi, hlen, hfy, storeCells, goInt]
    · have : L.set ci (.sp (Sl T i.size enc ad 0 ([] ++ ([] : List α).drop ([] : List α).length))) = L := by
        obtain ⟨hil, hc⟩ := List.getElem?_eq_some_iff.1 h
        simp only [List.append_nil, List.drop_nil]
        rw [← hc, List.set_getElem_self]
      rw [this]; exact s
  · have s0 : sat E w (.obj b (.cells (pre ++ l.flatMap enc ++ post).toArray T (0, 0)) :: L.eraseIdx ci) := ⟨a1, a2, a3, _, hk, _, _, d, rfl, rfl, q⟩
    have hg := s0.head_obj
    have hl1 := flat_len hsz l
    have hl2 := flat_len hsz ys
    have hlm : ys.length * i.size ≤ l.length * i.size := Nat.mul_le_mul_right _ hle
    have hst := run_storeCells_at (P := P) b pre.length T (ys.flatMap enc) 0 _ w hg (by simp [hl1, hl2]; omega) (fun v hv => by
      obtain ⟨q, _, hq⟩ := List.mem_flatMap.1 hv
      rw [← oneB_eq]; exact List.all_eq_true.1 (h1s q) v hq)
    have hR : (pre ++ l.flatMap enc ++ post).take pre.length ++ ys.flatMap enc ++ (pre ++ l.flatMap enc ++ post).drop (pre.length + (ys.flatMap enc).length) = pre ++ (ys ++ l.drop ys.length).flatMap enc ++ post := by
      rw [List.append_assoc pre, List.take_left, ← List.drop_drop, List.drop_left, List.drop_append_of_le_length (by rw [hl1, hl2]; exact hlm), hl2, flat_drop hsz, List.flatMap_append]
      simp
    obtain ⟨f1, f2, f3, f4, f5⟩ := setRow_facts w b _ (pre ++ (ys ++ l.drop ys.length).flatMap enc ++ post).toArray T (0, 0) hg
    refine ⟨_, w.setRow b (pre ++ (ys ++ l.drop ys.length).flatMap enc ++ post).toArray, _, ?_, g, ?_⟩
    · rw [he]
      simp only [Nat.add_zero, List.toList_toArray, hR] at hst
      simp [Builtin.copy_, run_underlying' hu, sizeOf, typeInfo, hi, hlen, hmin, hfy, hst, goInt]
    · refine sat_back h ((s0.turn f3 f4 f5 f1 f2).imp fun h' d' => star_mono (fun z hz => ?_) (fun _ h => h) d')
      refine ⟨hsz, by simp; omega, .inr ⟨b, pre, post, rfl, ?_, hz⟩⟩
      have : (ys ++ l.drop ys.length).length = l.length := by simp; omega
      rw [this]; exact hpost
end Go.Sl
