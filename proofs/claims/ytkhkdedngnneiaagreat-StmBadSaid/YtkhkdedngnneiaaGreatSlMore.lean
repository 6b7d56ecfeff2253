/- Numbers: sums that fit, quotients, shifts; short names that the printed walks use. -/
import Derived.Test.YtkhkdedngnneiaaGreatSlAppend
namespace Go.Sl

abbrev pt (b o : Nat) : Value := .pointer (some ⟨b, o, none⟩)
abbrev vi (x : Int) : Value := .int .i64 x
abbrev vb (b : Bool) : Value := .bool b
abbrev wI (x : Int) : Int := IntKind.i64.wrap x
abbrev iand (x y : Int) : Int := IntKind.i64.wrap ((BitVec.ofInt 64 x &&& BitVec.ofInt 64 y).toNat)
abbrev ior (x y : Int) : Int := IntKind.i64.wrap ((BitVec.ofInt 64 x ||| BitVec.ofInt 64 y).toNat)
abbrev iandn (x y : Int) : Int := IntKind.i64.wrap ((BitVec.ofInt 64 x &&& ~~~BitVec.ofInt 64 y).toNat)
abbrev imax (x y : Int) : Int := if y > x then y else x
abbrev imin (x y : Int) : Int := if y < x then y else x
abbrev ish (y : Int) : Nat := min y.toNat 64
abbrev ishl (x y : Int) : Int := IntKind.i64.wrap (x * 2 ^ ish y)
abbrev ishr (x y : Int) : Int := x.fdiv (2 ^ ish y)

variable {n : Fm} {a : Act} {env env' : Slots} {P : Program} {c0 : Code} {fin : Act → World → Prop} {w : World}
variable {E : Env} {L L' : List Chunk} {todo todo' k : List It} {o : Oper}

theorem vi_eq {x y : Int} (h : x = y) : vi x = vi y := by rw [h]
/-- A sum, a difference, a product that fits. -/
theorem wI_eq {x z : Int} (h : x = z) (h0 : -9223372036854775808 ≤ z) (h1 : z ≤ 9223372036854775807) : vi (wI x) = vi z := by
  subst h; rw [show wI x = x from wrap_id h0 h1]

def binE (env : Slots) (o : Oper) : Option (BinOp × Value × Value) := match o.op with
  | .binOp op _ x y _ => match evalE env x, evalE env y with
    | some u, some v => some (op, u, v)
    | _, _ => none
  | _ => none

theorem run_quo {x y : Int} (h : binE env o = some (.quo, vi x, vi y)) (hx : 0 ≤ x) (hx1 : x ≤ 9223372036854775807) (hy : 1 ≤ y) : RunsTo P env o (vi (x / y)) := by
  intro w
  unfold binE at h
  split at h
  · rename_i op t u v yt ho
    split at h
    · rename_i u' v' hu hv
      simp at h; obtain ⟨rfl, rfl, rfl⟩ := h
      have e1 : evalD env u = vi x := by simp [evalD, hu]
      have e2 : evalD env v = vi y := by simp [evalD, hv]
      have hy0 : ¬ (y = 0) := by omega
      have hb : IntKind.i64.wrap (x.tdiv y) = x / y := by
        rw [Int.tdiv_eq_ediv_of_nonneg hx]
        have h1 : x / y ≤ x := Int.ediv_le_self _ hx
        have h2 : 0 ≤ x / y := Int.ediv_nonneg hx (by omega)
        exact wrap_id (by omega) (by omega)
      simp [execOp, ho, e1, e2, eqGuard, binOp, Op.intDiv, hy0, hb]
    · simp at h
  · simp at h

theorem run_rem {x y : Int} (h : binE env o = some (.rem, vi x, vi y)) (hy : y ≠ 0) : RunsTo P env o (vi (x.tmod y)) := by
  intro w
  unfold binE at h
  split at h
  · rename_i op t u v yt ho
    split at h
    · rename_i u' v' hu hv
      simp at h; obtain ⟨rfl, rfl, rfl⟩ := h
      have e1 : evalD env u = vi x := by simp [evalD, hu]
      have e2 : evalD env v = vi y := by simp [evalD, hv]
      simp [execOp, ho, e1, e2, eqGuard, binOp, Op.intDiv, hy]
    · simp at h
  · simp at h

theorem run_shl {x y : Int} (h : binE env o = some (.shl, vi x, vi y)) (hy : 0 ≤ y) : RunsTo P env o (vi (ishl x y)) := by
  intro w
  unfold binE at h
  split at h
  · rename_i op t u v yt ho
    split at h
    · rename_i u' v' hu hv
      simp at h; obtain ⟨rfl, rfl, rfl⟩ := h
      have e1 : evalD env u = vi x := by simp [evalD, hu]
      have e2 : evalD env v = vi y := by simp [evalD, hv]
      have : ¬ (y < 0) := by omega
      simp [execOp, ho, e1, e2, eqGuard, binOp, Op.shift, this, IntKind.bits]
    · simp at h
  · simp at h

theorem run_shr {x y : Int} (h : binE env o = some (.shr, vi x, vi y)) (hy : 0 ≤ y) : RunsTo P env o (vi (ishr x y)) := by
  intro w
  unfold binE at h
  split at h
  · rename_i op t u v yt ho
    split at h
    · rename_i u' v' hu hv
      simp at h; obtain ⟨rfl, rfl, rfl⟩ := h
      have e1 : evalD env u = vi x := by simp [evalD, hu]
      have e2 : evalD env v = vi y := by simp [evalD, hv]
      have : ¬ (y < 0) := by omega
      simp [execOp, ho, e1, e2, eqGuard, binOp, Op.shift, this, IntKind.bits]
    · simp at h
  · simp at h

/-- A new map. -/
theorem ot_map {K : Value → List Chunk → Prop} (h : (match o.op with | .makeMap _ none => true | _ => false) = true) (g : ∀ b, K (.map (some b)) (.obj b (.map #[] 0) :: L)) : OT P E o env L K := by
  refine ot_run fun w s => ⟨.map (some w.heap.size), w.alloc (.map #[] 0), _, ?_, g w.heap.size, fresh_alloc s⟩
  split at h
  · rename_i t ho
    simp [execOp, ho, Instr.makeMap]
  · simp at h


section parts
variable {α : Type} {T sz : Nat} {enc : α → List Value} {ad : Option Addr} {cap : Nat} {l : List α} {X : SP} {K : Value → List Chunk → Prop}

/-- A part of a slice, to read. -/
theorem ot_slR (lo hi : Option Value) (i j : Nat) (h1 : slE P env o = some (.slice ad l.length cap, lo, hi, sz)) (hlo : loOf lo = some (i : Int)) (hhi : hiOf l.length hi = some (j : Int)) (hij : i ≤ j) (hj : j ≤ l.length) (hc : l.length ≤ cap)
    (l' : List α) (hl' : l' = (l.take j).drop i) (r : Reads X sz enc ad l) (g : ∀ a', Reads X sz enc a' l' → K (.slice a' l'.length (cap - i)) L) : OT P E o env L K := by
  subst hl'
  have h2 := run_sl h1 hlo hhi (by omega) (by omega) (by omega)
  have e : j - i = ((l.take j).drop i).length := by simp; omega
  simp only [Int.toNat_natCast] at h2
  rw [e] at h2
  exact ot_val _ h2 (g _ (reads_narrow i j hij hj hc r))

/-- A part of a slice of our own, in its place. -/
theorem ot_slO (ci : Nat) (lo hi : Option Value) (i j : Nat) (h : chunkAt L ci = some (.sp (Sl T sz enc ad cap l))) (h1 : slE P env o = some (.slice ad l.length cap, lo, hi, sz)) (hlo : loOf lo = some (i : Int)) (hhi : hiOf l.length hi = some (j : Int)) (hij : i ≤ j) (hj : j ≤ l.length)
    (l' : List α) (hl' : l' = (l.take j).drop i) (g : ∀ a', K (.slice a' l'.length (cap - i)) (L.set ci (.sp (Sl T sz enc a' (cap - i) l')))) : OT P E o env L K := by
  subst hl'
  refine ot_run fun w s => ?_
  obtain ⟨m, hm, hx⟩ := sat_sp h s
  have hc : l.length ≤ cap := hx.2.1
  have h2 := run_sl h1 hlo hhi (by omega) (by omega) (by omega) w
  have e : j - i = ((l.take j).drop i).length := by simp; omega
  simp only [Int.toNat_natCast] at h2
  rw [e] at h2
  exact ⟨_, w, _, h2, g _, sat_back h ((sat_front h s).imp fun _ d => star_mono (sl_narrow i j hij hj) (fun _ h => h) d)⟩
/-- How long a slice of our own may be. -/
theorem g_cap (ci : Nat) (h : chunkAt L ci = some (.sp (Sl T sz enc ad cap l))) (g : l.length ≤ cap → G P c0 fin E n todo env L) : G P c0 fin E n todo env L := by
  intro a w f s
  obtain ⟨m, hm, hx⟩ := sat_sp h s
  exact g hx.2.1 a w f s
end parts

end Go.Sl
