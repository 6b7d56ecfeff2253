/- What the layer shape reckons. -/
import Derived.Test.YtkhkdedngnneiaaGreatModel
namespace Go.Lk
structure Conf where
  regions : Int
  objects : Int
  stripes : Int
  width : Int
  threads : Int
  slots : Int
  regs : Int
  locks : Int
  undo : Int
  escalate : Int
  tickets : Int
  policy : Int
deriving DecidableEq
def Conf.bounds (c : Conf) : List (Int × Int × Int) :=
  [(c.regions, 1, 8), (c.objects, 1, 8), (c.stripes, 1, 8), (c.width, 1, 8), (c.threads, 1, 64), (c.slots, 0, 48),
   (c.regs, 1, 8), (c.locks, 1, 4096), (c.undo, 1, 1000), (c.escalate, 0, 64), (c.tickets, 1, 10000), (c.policy, 0, 2)]
def inB (b : Int × Int × Int) : Bool := !(decide (b.1 < b.2.1) || decide (b.1 > b.2.2))
def Conf.ok (c : Conf) : Bool := c.bounds.all inB
def check (c : Conf) : Int := if c.ok then 0 else 1
theorem take_all_step {α : Type} {p : α → Bool} {l : List α} {k : Nat} {x : α} (h : (l.take k).all p = true) (hx : l[k]? = some x) (hp : p x = true) :
    (l.take (k + 1)).all p = true := by
  rw [List.take_add_one, hx, List.all_append, h]; simp [hp]
structure Conf.Ok (c : Conf) : Prop where
  regions : 1 ≤ c.regions ∧ c.regions ≤ 8
  objects : 1 ≤ c.objects ∧ c.objects ≤ 8
  stripes : 1 ≤ c.stripes ∧ c.stripes ≤ 8
  width : 1 ≤ c.width ∧ c.width ≤ 8
  threads : 1 ≤ c.threads ∧ c.threads ≤ 64
  slots : 0 ≤ c.slots ∧ c.slots ≤ 48
  regs : 1 ≤ c.regs ∧ c.regs ≤ 8
  locks : 1 ≤ c.locks ∧ c.locks ≤ 4096
  undo : 1 ≤ c.undo ∧ c.undo ≤ 1000
  escalate : 0 ≤ c.escalate ∧ c.escalate ≤ 64
  tickets : 1 ≤ c.tickets ∧ c.tickets ≤ 10000
  policy : 0 ≤ c.policy ∧ c.policy ≤ 2
theorem Conf.ok_iff (c : Conf) : c.ok = true ↔ c.Ok := by
  constructor
  · intro h; simp [Conf.ok, Conf.bounds, inB] at h; constructor <;> omega
  · intro h; obtain ⟨_, _, _, _, _, _, _, _, _, _, _, _⟩ := h; simp [Conf.ok, Conf.bounds, inB]; omega
theorem check_ok {c : Conf} (h : check c = 0) : c.Ok := by
  apply (Conf.ok_iff c).1; unfold check at h; split at h <;> simp_all
theorem check_of {c : Conf} (h : c.Ok) : check c = 0 := by simp [check, (Conf.ok_iff c).2 h]
theorem check_bad {c : Conf} (h : ¬ check c = 0) : c.ok = false := by
  unfold check at h; split at h <;> simp_all
/-- The products, bounded. -/
theorem mul_le8 {a b m : Int} (ha : 1 ≤ a ∧ a ≤ m) (hb : 1 ≤ b ∧ b ≤ 8) : 1 ≤ a * b ∧ a * b ≤ m * 8 := by
  obtain ⟨a1, a2⟩ := ha; obtain ⟨b1, b2⟩ := hb
  refine ⟨?_, Int.le_trans (Int.mul_le_mul_of_nonneg_right a2 (by omega)) (Int.mul_le_mul_of_nonneg_left b2 (by omega))⟩
  have : 0 < a * b := Int.mul_pos (by omega) (by omega)
  omega
def Conf.objs (c : Conf) : Int := c.regions * c.objects
def Conf.strs (c : Conf) : Int := c.regions * c.objects * c.stripes
theorem Conf.Ok.objs {c : Conf} (h : c.Ok) : 1 ≤ c.objs ∧ c.objs ≤ 64 := mul_le8 h.regions h.objects
theorem Conf.Ok.strs {c : Conf} (h : c.Ok) : 1 ≤ c.strs ∧ c.strs ≤ 512 := mul_le8 h.objs h.stripes
theorem Conf.Ok.wordsB {c : Conf} (h : c.Ok) : 1 ≤ c.strs * c.width ∧ c.strs * c.width ≤ 4096 := mul_le8 h.strs h.width
theorem Conf.Ok.prods {c : Conf} (h : c.Ok) : (1 ≤ c.regions * c.objects ∧ c.regions * c.objects ≤ 64) ∧
    (1 ≤ c.regions * c.objects * c.stripes ∧ c.regions * c.objects * c.stripes ≤ 512) ∧
    (1 ≤ c.regions * c.objects * c.stripes * c.width ∧ c.regions * c.objects * c.stripes * c.width ≤ 4096) := ⟨h.objs, h.strs, h.wordsB⟩
def countR (c : Conf) : Int := if c.ok then c.regions else 0
def countO (c : Conf) : Int := if c.ok then c.regions * c.objects else 0
def countS (c : Conf) : Int := if c.ok then c.regions * c.objects * c.stripes else 0
def words (c : Conf) : Int := countS c * c.width
def nodes (c : Conf) : Int := countR c + countO c + countS c
def cellsN (c : Conf) : Int := countS c * c.width + countS c * 8
theorem counts_bounds (c : Conf) : 0 ≤ countR c ∧ countR c ≤ 8 ∧ 0 ≤ countO c ∧ countO c ≤ 64 ∧ 0 ≤ countS c ∧ countS c ≤ 512 ∧ 0 ≤ words c ∧ words c ≤ 4096 ∧ 0 ≤ countS c * c.width ∧ countS c * c.width ≤ 4096 := by
  unfold words countR countO countS
  split
  · rename_i h; have h := (Conf.ok_iff c).1 h; have := h.prods; have := h.regions; omega
  · omega
theorem counts_pos {c : Conf} (h : countS c ≠ 0) : c.Ok := by
  unfold countS at h; split at h
  · rename_i k; exact (Conf.ok_iff c).1 k
  · simp at h
theorem div_lt8 {a b m : Int} (ha : 0 ≤ a) (hb : 1 ≤ b) (h : a < m * b) : 0 ≤ a / b ∧ a / b < m :=
  ⟨Int.ediv_nonneg ha (by omega), Int.ediv_lt_of_lt_mul (by omega) h⟩
theorem path_bounds {c : Conf} {a : Int} (hk : c.Ok) (h0 : ¬ a < 0) (h : ¬ a ≥ words c) :
    (0 ≤ a / c.width ∧ a / c.width < c.regions * c.objects * c.stripes) ∧
    (0 ≤ a / c.width / c.stripes ∧ a / c.width / c.stripes < c.regions * c.objects) ∧
    (0 ≤ a / c.width / c.stripes / c.objects ∧ a / c.width / c.stripes / c.objects < c.regions) := by
  have e : words c = c.regions * c.objects * c.stripes * c.width := by simp [words, countS, (Conf.ok_iff c).2 hk]
  have h1 := div_lt8 (a := a) (b := c.width) (m := c.regions * c.objects * c.stripes) (by omega) hk.width.1 (by omega)
  have h2 := div_lt8 (a := a / c.width) (b := c.stripes) (m := c.regions * c.objects) h1.1 hk.stripes.1 h1.2
  exact ⟨h1, h2, div_lt8 h2.1 hk.objects.1 h2.2⟩
def path (c : Conf) (a : Int) : Int × Int × Int × Int :=
  if a < 0 ∨ a ≥ words c then (0, 0, 0, 1)
  else (a / c.width / c.stripes / c.objects, c.regions + a / c.width / c.stripes, c.regions + c.regions * c.objects + a / c.width, 0)
def level (c : Conf) (n : Int) : Int :=
  if n < 0 ∨ n ≥ nodes c then -1 else if n < countR c then 0 else if n < countR c + countO c then 1 else 2
def parent (c : Conf) (n : Int) : Int :=
  if level c n = 1 then (n - c.regions) / c.objects else if level c n = 2 then c.regions + (n - c.regions - c.regions * c.objects) / c.stripes else -1
def latchAt (c : Conf) (n : Int) : Int := if level c n = 2 then words c + (n - c.regions - c.regions * c.objects) * 8 else -1
theorem path_bad {c : Conf} {a : Int} (h : a < 0 ∨ a ≥ words c) : path c a = (0, 0, 0, 1) := if_pos h
theorem path_good {c : Conf} {a : Int} (h : ¬ a < 0) (k : ¬ a ≥ words c) : path c a =
  (a / c.width / c.stripes / c.objects, c.regions + a / c.width / c.stripes, c.regions + c.regions * c.objects + a / c.width, 0) :=
  if_neg (by omega)
theorem level_none {c : Conf} {n : Int} (h : n < 0 ∨ n ≥ countR c + countO c + countS c) : level c n = -1 := if_pos h
theorem level_R {c : Conf} {n : Int} (h : ¬ n < 0) (k : ¬ n ≥ countR c + countO c + countS c) (r : n < countR c) : level c n = 0 := by
  rw [level, if_neg (by unfold nodes; omega), if_pos r]
theorem level_O {c : Conf} {n : Int} (h : ¬ n < 0) (k : ¬ n ≥ countR c + countO c + countS c) (r : ¬ n < countR c) (o : n < countR c + countO c) : level c n = 1 := by
  rw [level, if_neg (by unfold nodes; omega), if_neg r, if_pos o]
theorem level_S {c : Conf} {n : Int} (h : ¬ n < 0) (k : ¬ n ≥ countR c + countO c + countS c) (r : ¬ n < countR c) (o : ¬ n < countR c + countO c) : level c n = 2 := by
  rw [level, if_neg (by unfold nodes; omega), if_neg r, if_neg o]
theorem count_ok {c : Conf} (h : ¬ (countR c + countO c + countS c ≤ 0)) : c.Ok := by
  unfold countR countO countS at h
  split at h
  · rename_i k; exact (Conf.ok_iff c).1 k
  · omega
theorem counts_of {c : Conf} (h : c.Ok) : countR c = c.regions ∧ countO c = c.regions * c.objects ∧ countS c = c.regions * c.objects * c.stripes := by
  simp [countR, countO, countS, (Conf.ok_iff c).2 h]
theorem level_one {c : Conf} {n : Int} (h : level c n = 1) : c.Ok ∧ c.regions ≤ n ∧ n < c.regions + c.regions * c.objects := by
  unfold level nodes at h
  split at h
  · omega
  split at h
  · omega
  split at h
  · have hk : c.Ok := count_ok (by omega)
    obtain ⟨e1, e2, e3⟩ := counts_of hk
    refine ⟨hk, ?_, ?_⟩ <;> omega
  · omega
theorem level_two {c : Conf} {n : Int} (h : level c n = 2) : c.Ok ∧ c.regions + c.regions * c.objects ≤ n ∧ n < c.regions + c.regions * c.objects + c.regions * c.objects * c.stripes := by
  unfold level nodes at h
  split at h
  · omega
  split at h
  · omega
  split at h
  · omega
  · have hk : c.Ok := count_ok (by omega)
    obtain ⟨e1, e2, e3⟩ := counts_of hk
    refine ⟨hk, ?_, ?_⟩ <;> omega
theorem parent_one {c : Conf} {n : Int} (h : level c n = 1) : parent c n = (n - countR c) / c.objects := by
  rw [parent, if_pos h, (counts_of (level_one h).1).1]
theorem parent_two {c : Conf} {n : Int} (h : level c n = 2) : parent c n = countR c + (n - countR c - countO c) / c.stripes := by
  obtain ⟨e1, e2, e3⟩ := counts_of (level_two h).1
  rw [parent, if_neg (by omega), if_pos h, e1, e2]
theorem parent_none {c : Conf} {n : Int} (h : ¬ level c n = 1) (k : ¬ level c n = 2) : parent c n = -1 := by
  rw [parent, if_neg h, if_neg k]
theorem latch_two {c : Conf} {n : Int} (h : level c n = 2) : latchAt c n = words c + (n - countR c - countO c) * 8 := by
  obtain ⟨e1, e2, e3⟩ := counts_of (level_two h).1
  rw [latchAt, if_pos h, e1, e2]
theorem latch_none {c : Conf} {n : Int} (h : level c n ≠ 2) : latchAt c n = -1 := by
  rw [latchAt, if_neg h]
theorem div_bound {a b m : Int} (ha : 0 ≤ a) (h : a ≤ m) (hb : 1 ≤ b) : 0 ≤ a / b ∧ a / b ≤ m := by
  refine ⟨Int.ediv_nonneg ha (by omega), ?_⟩
  exact Int.le_trans (Int.ediv_le_self b ha) h
end Go.Lk
namespace Go.Lk
theorem Conf.Ok.sizes {c : Conf} (h : c.Ok) : 1 ≤ words c ∧ words c ≤ 4096 ∧ words c ≤ cellsN c ∧ cellsN c ≤ 8192 ∧ 1 ≤ nodes c ∧ nodes c ≤ 584 := by
  have := h.prods; have := h.regions; obtain ⟨e1, e2, e3⟩ := counts_of h
  have hb := counts_bounds c
  simp only [words, cellsN, nodes, e1, e2, e3] at *
  omega
end Go.Lk
