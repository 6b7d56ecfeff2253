/- append, make, copy, clear on slices of our own. -/
import Derived.Test.YtkhkdedngnneiaaGreatSlSlice
namespace Go.Sl

variable {n : Fm} {a : Act} {env env' : Slots} {P : Program} {c0 : Code} {fin : Act → World → Prop} {w : World}
variable {E : Env} {L L' : List Chunk} {todo todo' k : List It} {o : Oper}
variable {α : Type} {T sz : Nat} {enc : α → List Value} {ad : Option Addr} {cap : Nat} {l : List α} {X : SP}

/-- What a read slice's first cells are. -/
theorem Reads.first {ci : Nat} {ys : List α} {ya : Option Addr} {yc : Nat} (r : Reads X sz enc ya ys) (h : chunkAt L ci = some (.sp X)) (s : sat E w L) :
    (Builtin.firstCells sz ys.length (.slice ya ys.length yc)).run P w = .ok (ys.flatMap enc).toArray w := by
  obtain ⟨m, hm, hx⟩ := sat_sp h s
  obtain ⟨hk, rfl | ⟨b, pre, post, T, fz, rfl, hb⟩⟩ := r m hx
  · cases ya <;> simp [Builtin.firstCells, loadCells, loadCellsFrom]
  · have hl := flat_len hk ys
    have := run_loadCells_list (P := P) w ⟨b, pre.length, none⟩ (ys.flatMap enc) (fun j v hj => by
      rw [add_off]
      have hlt := (List.getElem?_eq_some_iff.1 hj).1
      have hc : (pre ++ ys.flatMap enc ++ post)[pre.length + j]? = some v := by
        rw [List.append_assoc, List.getElem?_append_right (by omega), Nat.add_sub_cancel_left, List.getElem?_append_left hlt]
        exact hj
      simp only [World.cell?, hm _ _ hb]
      simpa using hc)
    rw [hl] at this
    simp only [Builtin.firstCells]
    exact this

def apE (P : Program) (env : Slots) (o : Oper) : Option (Value × Value × Nat × Nat × Nat) := match o.op with
  | .call { callee := .builtin .append, args, argTypes } => match args.toList, argTypes.toList with
    | [x, y], [t, t'] => match Nat.beq t t', evalE env x, evalE env y, pureS P (underlying t) with
      | true, some v, some u, some (.slice e) => match P.info? e with
        | some i => match i.zero with
          | some z => match Nat.beq z.cells.toList.length i.size with
            | true => some (v, u, e, i.size, i.bytes)
            | false => none
          | none => none
        | none => none
      | _, _, _, _ => none
    | _, _ => none
  | _ => none

theorem apE_spec {v u : Value} {e s by' : Nat} (h : apE P env o = some (v, u, e, s, by')) :
    ∃ (x y : Operand) (t ty : TypeId) (i : TypeInfo) (z : Value), evalD env x = v ∧ evalD env y = u ∧ pureS P (underlying t) = some (.slice e) ∧ P.info? e = some i ∧ i.size = s ∧ i.bytes = by' ∧ i.zero = some z ∧ z.cells.size = i.size ∧
      execOp (evalD env) o = (do let r ← Builtin.append_ #[t, t] ty #[v, u]; pure (.value r)) := by
  unfold apE at h
  split at h
  · rename_i args argTypes ho
    split at h
    · rename_i x y t t' ha ht
      split at h
      · rename_i hb hx hy hu
        split at h
        · rename_i i hi
          split at h
          · rename_i z hz
            split at h
            · rename_i hzs
              simp at h; obtain ⟨rfl, rfl, rfl, rfl, rfl⟩ := h
              have hb' := Nat.eq_of_beq_eq_true hb
              subst hb'
              refine ⟨x, y, t, o.type, i, z, by simp [evalD, hx], by simp [evalD, hy], hu, hi, rfl, rfl, hz, by simpa using Nat.eq_of_beq_eq_true hzs, ?_⟩
              have ea : args = #[x, y] := by rw [← ha]
              have et : argTypes = #[t, t] := by rw [← ht]
              simp only [execOp, ho, resolve, invoke, builtin, ea, et]
              simp [evalD, hx, hy]
            · simp at h
          · simp at h
        · simp at h
      · simp at h
    · simp at h
  · simp at h

theorem run_underlying' {t : TypeId} {d : TypeDesc} (h : pureS P (underlying t) = some d) : (underlying t).run P w = .ok d w := pureS_run h w

/-- What append does to cells that are there. -/
theorem run_append_in {t ty e : TypeId} {i : TypeInfo} (hu : pureS P (underlying t) = some (.slice e)) (hi : P.info? e = some i) (b off sLen sCap nn : Nat) (u : Value) (cur : Array Value) (hg : w.heap[b]? = some (.cells cur T (0, 0)))
    (news : List Value) (hlen : (Builtin.lenOf u).run P w = .ok nn w) (hf : (Builtin.firstCells i.size nn u).run P w = .ok news.toArray w) (h1 : ∀ v ∈ news, v.oneCell' = true)
    (hroom : sLen + nn ≤ sCap) (hfit : off + sLen * i.size + news.length ≤ cur.size) :
    (Builtin.append_ #[t, t] ty #[.slice (some ⟨b, off, none⟩) sLen sCap, u]).run P w =
      .ok (.slice (some ⟨b, off, none⟩) (sLen + nn) sCap) (w.setRow b (cur.toList.take (off + sLen * i.size) ++ news ++ cur.toList.drop (off + sLen * i.size + news.length)).toArray) := by
  have hst := run_storeCells_at P b (off + sLen * i.size) T news 0 cur w hg (by simpa using hfit) h1
  simp only [Nat.add_zero] at hst
  simp [Builtin.append_, run_underlying' hu, sizeOf, typeInfo, hi, hlen, hroom, hf, add_off, hst]

theorem run_append_new {t ty e : TypeId} {i : TypeInfo} {z : Value} (hu : pureS P (underlying t) = some (.slice e)) (hi : P.info? e = some i) (hz : i.zero = some z) (base : Option Addr) (sLen sCap nn : Nat) (u : Value)
    (olds news : List Value) (hlen : (Builtin.lenOf u).run P w = .ok nn w) (hf : (Builtin.firstCells i.size nn u).run P w.drew = .ok news.toArray w.drew)
    (hfo : (Builtin.firstCells i.size sLen (.slice base sLen sCap)).run P w.drew = .ok olds.toArray w.drew)
    (hg : sCap < sLen + nn) (hb : (sLen + nn) * i.bytes ≤ 140737488355328) (h63 : sLen + nn ≤ 9223372036854775807) :
    (Builtin.append_ #[t, t] ty #[.slice base sLen sCap, u]).run P w =
      .ok (.slice (some ⟨w.heap.size, 0, none⟩) (sLen + nn) (grownCap w (sLen + nn) sCap e))
        (w.drew.alloc (.cells (olds.toArray ++ news.toArray ++ Builtin.zeroCells z.cells (grownCap w (sLen + nn) sCap e - (sLen + nn))) e)) := by
  have hn : ¬ (sLen + nn ≤ sCap) := by omega
  have h63' : ¬ (9223372036854775807 < ((sLen : Int) + (nn : Int))) := by omega
  have hfit := growslice_fits (bytes := i.bytes) hg hb
  have h48' : ¬ (281474976710656 < Builtin.nextslicecap (sLen + nn) sCap * i.bytes) := by omega
  simp [Builtin.append_, run_underlying' hu, sizeOf, typeInfo, zeroValue, hi, hz, hlen, hn, h63', h48', Question.forced, hf, hfo, newRow, grownCap]
  congr 2
  apply Array.ext'
  simp [List.append_assoc]

theorem sat_drew (s : sat E w L) : sat E w.drew L := s.world rfl rfl rfl fun _ _ h => h

theorem take_two (p m q : List Value) : (p ++ m ++ q).take (p.length + m.length) = p ++ m := by
  rw [← List.length_append, List.take_left']; rfl
theorem drop_two (p m q : List Value) (j : Nat) : (p ++ m ++ q).drop (p.length + m.length + j) = q.drop j := by
  rw [← List.length_append, List.drop_append, List.drop_of_length_le (by omega), Nat.add_sub_cancel_left]; rfl

/-- append of a slice that can be read to one of our own. -/
theorem ot_append {K : Value → List Chunk → Prop} (ci cj : Nat) {Y : SP} {ys : List α} {ya : Option Addr} {yc : Nat} (by' : Nat) (r : Reads Y sz enc ya ys)
    (h : chunkAt L ci = some (.sp (Sl T sz enc ad cap l))) (hj : chunkAt L cj = some (.sp Y)) (h1 : apE P env o = some (.slice ad l.length cap, .slice ya ys.length yc, T, sz, by'))
    (h1s : ∀ x, (enc x).all oneB = true) (hb : (l.length + ys.length) * by' ≤ 140737488355328) (h63 : l.length + ys.length ≤ 9223372036854775807)
    (g : ∀ a' cap', K (.slice a' (l ++ ys).length cap') (L.set ci (.sp (Sl T sz enc a' cap' (l ++ ys))))) : OT P E o env L K := by
  refine ot_run fun w s => ?_
  obtain ⟨x, y, t, ty, i, z, hx, hy, hu, hi, rfl, rfl, hz, hzs, he⟩ := apE_spec h1
  have hfy := fun (w : World) (s : sat E w L) => r.first (P := P) (yc := yc) hj s
  have hlen : ∀ w, (Builtin.lenOf (.slice ya ys.length yc)).run P w = .ok ys.length w := fun w => by simp [Builtin.lenOf]
  have honl : ∀ v ∈ ys.flatMap enc, v.oneCell' = true := fun v hv => by
    obtain ⟨q, _, hq⟩ := List.mem_flatMap.1 hv
    rw [← oneB_eq]; exact List.all_eq_true.1 (h1s q) v hq
  have hll : (l ++ ys).length = l.length + ys.length := by simp
  obtain ⟨a1, a2, a3, kk, hk, hx', hy', d, rfl, ⟨hsz, hcap, hd⟩, q⟩ := sat_front h s
  by_cases hroom : l.length + ys.length ≤ cap
  · rcases hd with ⟨hc0, rfl⟩ | ⟨b, pre, post, rfl, hpost, rfl⟩
    · have e1 : l = [] := List.length_eq_zero_iff.1 (by omega)
      have e2 : ys = [] := List.length_eq_zero_iff.1 (by omega)
      subst e1; subst e2; subst hc0
      refine ⟨.slice ad 0 0, w, _, ?_, g ad 0, ?_⟩
      · have hf := hfy w s
        simp only [List.length_nil] at hf hlen
        rw [he]
        cases ad <;> simp [Builtin.append_, run_underlying' hu, sizeOf, typeInfo, hi, hlen, hf, storeCells]
      · have : L.set ci (.sp (Sl T i.size enc ad 0 ([] ++ []))) = L := by
          obtain ⟨hil, hc⟩ := List.getElem?_eq_some_iff.1 h
          simp only [List.append_nil]
          rw [← hc, List.set_getElem_self]
        rw [this]; exact s
    · have s0 : sat E w (.obj b (.cells (pre ++ l.flatMap enc ++ post).toArray T (0, 0)) :: L.eraseIdx ci) := ⟨a1, a2, a3, _, hk, _, _, d, rfl, rfl, q⟩
      have hg := s0.head_obj
      have hl1 := flat_len hsz l
      have hl2 := flat_len hsz ys
      have hp2 : (cap - l.length) * i.size = (cap - (l.length + ys.length)) * i.size + ys.length * i.size := by rw [← Nat.add_mul]; congr 1; omega
      have hrun := run_append_in (P := P) (ty := ty) hu hi b pre.length l.length cap ys.length (.slice ya ys.length yc) _ hg (ys.flatMap enc) (hlen w) (hfy w s) honl hroom (by simp [hl1, hl2]; omega)
      have e : (pre ++ l.flatMap enc ++ post).take (pre.length + l.length * i.size) ++ ys.flatMap enc ++ (pre ++ l.flatMap enc ++ post).drop (pre.length + l.length * i.size + (ys.flatMap enc).length)
          = pre ++ (l ++ ys).flatMap enc ++ post.drop (ys.length * i.size) := by
        rw [← hl1, take_two, drop_two, hl2, List.flatMap_append, List.append_assoc pre]
      rw [e] at hrun
      obtain ⟨f1, f2, f3, f4, f5⟩ := setRow_facts w b _ (pre ++ (l ++ ys).flatMap enc ++ post.drop (ys.length * i.size)).toArray T (0, 0) hg
      refine ⟨_, w.setRow b (pre ++ (l ++ ys).flatMap enc ++ post.drop (ys.length * i.size)).toArray, _, ?_, g (some ⟨b, pre.length, none⟩) cap, ?_⟩
      · rw [he, hll]; simp [hrun]
      · refine sat_back h ((s0.turn f3 f4 f5 f1 f2).imp fun h' d' => star_mono (fun z hz => ?_) (fun _ h => h) d')
        refine ⟨hsz, by rw [hll]; exact hroom, .inr ⟨b, pre, _, rfl, ?_, hz⟩⟩
        rw [hll, List.length_drop]; omega
  · have sd := sat_drew s
    have hfo : (Builtin.firstCells i.size l.length (.slice ad l.length cap)).run P w.drew = .ok (l.flatMap enc).toArray w.drew := (Sl.reads (cap := cap) (T := T)).first h sd
    have hrun := run_append_new (P := P) (ty := ty) hu hi hz ad l.length cap ys.length (.slice ya ys.length yc) (l.flatMap enc) (ys.flatMap enc) (hlen w) (hfy _ sd) hfo (by omega) hb h63
    refine ⟨_, w.drew.alloc (.cells ((l.flatMap enc).toArray ++ (ys.flatMap enc).toArray ++ Builtin.zeroCells z.cells (grownCap w (l.length + ys.length) cap T - (l.length + ys.length))) T), _, ?_, g (some ⟨w.heap.size, 0, none⟩) (grownCap w (l.length + ys.length) cap T), ?_⟩
    · rw [he, hll]; simp only [Sem.run_bind, hrun]; rfl
    · have s1 := (sat_front h sd).tail
      have s2 := s1.fresh (w' := w.drew.alloc (.cells ((l.flatMap enc).toArray ++ (ys.flatMap enc).toArray ++ Builtin.zeroCells z.cells (grownCap w (l.length + ys.length) cap T - (l.length + ys.length))) T)) rfl rfl rfl rfl
      refine sat_back h (s2.imp fun h' d' => star_mono (fun z' hz' => ?_) (fun _ h => h) d')
      have hge : l.length + ys.length ≤ grownCap w (l.length + ys.length) cap T := by
        simp only [grownCap, Question.cut]; omega
      refine ⟨hsz, by rw [hll]; exact hge, .inr ⟨w.heap.size, [], (Builtin.zeroCells z.cells (grownCap w (l.length + ys.length) cap T - (l.length + ys.length))).toList, rfl, ?_, ?_⟩⟩
      · rw [hll]
        have : (Builtin.zeroCells z.cells (grownCap w (l.length + ys.length) cap T - (l.length + ys.length))).toList.length = (grownCap w (l.length + ys.length) cap T - (l.length + ys.length)) * i.size := by
          rw [Array.length_toList, size_zeroCells, hzs]
        omega
      · rw [hz']
        show hone _ _ = hone _ _
        congr 2
        apply Array.ext'
        simp [List.flatMap_append]


/-- A literal block read as a slice. -/
theorem obj_reads {b : Nat} {C : Array Value} {ys : List α} (hk : ∀ x, (enc x).length = sz) (hc : C.toList = ys.flatMap enc) : Reads (Chunk.obj b (.cells C T (0, 0))).den sz enc (some ⟨b, 0, none⟩) ys := by
  rintro h rfl
  exact ⟨hk, .inr ⟨b, [], [], T, (0, 0), rfl, by simp [hone, ← hc]⟩⟩

/-- A literal's chunk as a predicate. -/
theorem g_box (ci : Nat) (c : Chunk) (h : chunkAt L ci = some c) (g : G P c0 fin E n todo env (L.set ci (.sp c.den))) : G P c0 fin E n todo env L :=
  fun a w f s => g a w f (sat_back (L := L) (ci := ci) h (c' := .sp c.den) ((sat_front (L := L) (ci := ci) h s).imp fun _ d => d))

/-- make: so many of one. -/
def mkE (P : Program) (env : Slots) (o : Oper) : Option (Value × Value × Nat × Nat × Nat × Array Value) := match o.op with
  | .makeSlice t x y => match evalE env x, evalE env y, pureS P (underlying t) with
    | some u, some v, some (.slice e) => match P.info? e with
      | some i => match i.zero with
        | some z => match Nat.beq z.cells.toList.length i.size, Nat.blt 0 i.size with
          | true, true => some (u, v, e, i.size, i.bytes, z.cells)
          | _, _ => none
        | none => none
      | none => none
    | _, _, _ => none
  | _ => none

theorem wrap_id {x : Int} (h0 : -9223372036854775808 ≤ x) (h1 : x ≤ 9223372036854775807) : IntKind.i64.wrap x = x := by
  unfold IntKind.wrap
  simp [IntKind.bits, IntKind.signed]
  omega

theorem zeroCells_flat (z : Array Value) (m : Nat) : (Builtin.zeroCells z m).toList = (List.replicate m ()).flatMap (fun _ => z.toList) := by
  simp only [Builtin.zeroCells, Array.toList_map, Array.toList_range]
  induction m with
  | zero => simp
  | succ m ih =>
    rw [Nat.add_mul, Nat.one_mul, List.range_add, List.map_append, ih, List.replicate_succ', List.flatMap_append]
    congr 1
    simp only [List.map_map, List.flatMap_cons, List.flatMap_nil, List.append_nil]
    apply List.ext_getElem?
    intro j
    by_cases hj : j < z.size
    · simp [hj, Nat.mod_eq_of_lt hj]
    · simp [hj]

theorem ot_make {K : Value → List Chunk → Prop} {β : Type} (len : Nat) (enc : β → List Value) (x0 : β) (e size bytes : Nat) (z : Array Value)
    (h1 : mkE P env o = some (.int .i64 len, .int .i64 len, e, size, bytes, z)) (hk : ∀ x, (enc x).length = size) (hz : enc x0 = z.toList) (hb : len * bytes ≤ 281474976710656) (hl : len ≤ 9223372036854775807)
    (g : ∀ b, K (.slice (some ⟨b, 0, none⟩) (List.replicate len x0).length len) (.sp (Sl e size enc (some ⟨b, 0, none⟩) len (List.replicate len x0)) :: L)) : OT P E o env L K := by
  refine ot_run fun w s => ?_
  unfold mkE at h1
  split at h1
  · rename_i t x y ho
    split at h1
    · rename_i u v e' hx hy hu
      split at h1
      · rename_i i hi
        split at h1
        · rename_i zz hzz
          split at h1
          · rename_i hzs hpos
            simp at h1; obtain ⟨rfl, rfl, rfl, rfl, rfl, rfl⟩ := h1
            have e1 : evalD env x = .int .i64 len := by simp [evalD, hx]
            have e2 : evalD env y = .int .i64 len := by simp [evalD, hy]
            have hzs' : zz.cells.size = i.size := by simpa using Nat.eq_of_beq_eq_true hzs
            have hpos' : 0 < i.size := by simpa [Nat.blt_eq] using hpos
            have hw : IntKind.i64.wrap (len : Int) = len := wrap_id (by omega) (by omega)
            have hbi : ¬ (281474976710656 < (i.bytes : Int) * (len : Int)) := by
              have : ((len * i.bytes : Nat) : Int) ≤ 281474976710656 := by omega
              rw [Int.natCast_mul, Int.mul_comm] at this; omega
            refine ⟨.slice (some ⟨w.heap.size, 0, none⟩) len len, w.alloc (.cells (Builtin.zeroCells zz.cells len) e'), .sp (Sl e' i.size enc (some ⟨w.heap.size, 0, none⟩) len (List.replicate len x0)) :: L, ?_, ?_, ?_⟩
            · simp only [execOp, ho, e1, e2, Instr.makeSlice, Sem.run_bind, pureS_run hu, Result.andThen_ok, asInt, asIntOf, Sem.run_pure, typeInfo, run_program, hi, hw, sizeOf, zeroValue, hzz]
              have hneg : ¬ ((len : Int) < 0) := by omega
              simp [hneg, hbi, hw]
              by_cases h0 : len = 0
              · subst h0; simp [newRow, Builtin.zeroCells, hi, show Array.range 0 = #[] from rfl]
              · have hne : ¬ (i.size = 0) := by omega
                simp [h0, newRow, hi, hne, hzz, ← hzs', Builtin.zeroCells]
                intro hc
                exact absurd hc (Nat.mul_ne_zero h0 (by omega))
            · have hg := g w.heap.size
              rw [List.length_replicate] at hg; exact hg
            · have s1 := fresh_alloc (x := .cells (Builtin.zeroCells zz.cells len) e') s
              have hc : (Builtin.zeroCells zz.cells len).toList = (List.replicate len x0).flatMap enc := by
                rw [zeroCells_flat, ← hz]; simp [List.flatMap_def]
              refine s1.imp fun h' d' => star_mono (fun q hq => ?_) (fun _ h => h) d'
              have hh := sl_lit (T := e') hk (List.replicate len x0) (b := w.heap.size) hc q hq
              rw [List.length_replicate] at hh; exact hh
          · simp at h1
        · simp at h1
      · simp at h1
    · simp at h1
  · simp at h1

end Go.Sl
