/- Threads that have nothing to run. -/
import Derived.Test.YtkhkdedngnneiaaGreatMStm0
namespace Go.Lk
def Easy (h : Hand) : Prop := (h.phase = 0 ∧ (h.progs.length : Int) ≤ h.prog) ∨ h.phase = 6
def step0 (h : Hand) : Hand × Bool := if h.phase = 0 then ({ h with phase := 6 }, true) else (h, false)
theorem step0_ready {h : Hand} (e : h.phase = 0) : step0 h = ({ h with phase := 6 }, true) := if_pos e
theorem step0_done {h : Hand} (e : h.phase ≠ 0) : step0 h = (h, false) := if_neg e
theorem Easy.step {h : Hand} (e : Easy h) : Easy (step0 h).1 := by
  unfold step0; split
  · right; rfl
  · exact e
def picks0 (m : Mach) (n : Int) : Mach × Bool :=
  if n < 0 ∨ n > m.hands.length then (m, false)
  else match m.hands[n.toNat]? with
    | some h => ({ m with hands := m.hands.set n.toNat (step0 h).1 }, (step0 h).2)
    | none => (m, false)
theorem picks0_out {m : Mach} {n : Int} (h : n < 0 ∨ n > m.hands.length) : picks0 m n = (m, false) := if_pos h
theorem picks0_at {m : Mach} {n : Int} {x : Hand} (h : ¬ n < 0) (h2 : ¬ n > m.hands.length) (hx : m.hands[n.toNat]? = some x) :
    picks0 m n = ({ m with hands := m.hands.set n.toNat (step0 x).1 }, (step0 x).2) := by
  rw [picks0, if_neg (by omega), hx]
def pass (k : Core) : Core := { k with now := k.now + 1 }
def pick0 (m : Mach) (n : Int) : Mach × Bool := ({ (picks0 m n).1 with core := pass (picks0 m n).1.core }, (picks0 m n).2)
def run0 (m : Mach) : List Int → Mach × Int
  | [] => (m, 0)
  | n :: l => ((run0 (pick0 m n).1 l).1, (if (pick0 m n).2 then 1 else 0) + (run0 (pick0 m n).1 l).2)
/-- The same from the front. -/
def runF (z : Mach × Int) (n : Int) : Mach × Int := ((pick0 z.1 n).1, if (pick0 z.1 n).2 then z.2 + 1 else z.2)
def runs0 (m : Mach) (l : List Int) : Mach × Int := l.foldl runF (m, 0)
structure AllEasy (m : Mach) : Prop where
  easy : ∀ h ∈ m.hands, Easy h
theorem picks0_len (m : Mach) (n : Int) : (picks0 m n).1.hands.length = m.hands.length := by
  unfold picks0; split
  · rfl
  · split <;> simp
theorem picks0_core (m : Mach) (n : Int) : (picks0 m n).1.core = m.core := by
  unfold picks0; split
  · rfl
  · split <;> rfl
theorem pick0_len (m : Mach) (n : Int) : (pick0 m n).1.hands.length = m.hands.length := picks0_len m n
theorem pick0_now (m : Mach) (n : Int) : (pick0 m n).1.core.now = m.core.now + 1 := by simp [pick0, pass, picks0_core]
theorem AllEasy.pick {m : Mach} (e : AllEasy m) (n : Int) : AllEasy (pick0 m n).1 := by
  constructor
  show ∀ h ∈ (picks0 m n).1.hands, Easy h
  unfold picks0; split
  · exact e.easy
  · split
    · rename_i x hx
      intro h hh
      rcases List.mem_or_eq_of_mem_set hh with hh | rfl
      · exact e.easy h hh
      · exact (e.easy x (List.mem_of_getElem? hx)).step
    · exact e.easy
theorem run_step {m : Mach} {l : List Int} {i : Nat} {n : Int} {z : Mach × Int} (h : (l.take i).foldl runF (m, 0) = z) (hx : l[i]? = some n) : (l.take (i + 1)).foldl runF (m, 0) = runF z n := by
  rw [List.take_add_one, hx, List.foldl_append, h]; rfl
/-- Is each thread in one of some phases? -/
def every (m : Mach) (l : List Int) : Bool := !(m.hands.any fun h => !(l.any fun x => h.phase == x))
theorem any_step2 {α : Type} {p : α → Bool} {l : List α} {i : Nat} {x : α} (h : (l.take i).any p = false) (hx : l[i]? = some x) (hp : p x = false) : (l.take (i + 1)).any p = false := any_step h hx hp
end Go.Lk
namespace Go.Lk
def phaseNot (l : List Int) (h : Hand) : Bool := !(l.any fun x => h.phase == x)
theorem every_eq (m : Mach) (l : List Int) : every m l = !(m.hands.any (phaseNot l)) := rfl
theorem runs_ok {m : Mach} (e : AllEasy m) (l : List Int) : AllEasy (l.foldl runF (m, 0)).1 ∧ (l.foldl runF (m, 0)).1.hands.length = m.hands.length ∧ (l.foldl runF (m, 0)).1.core.now = m.core.now + l.length ∧
    0 ≤ (l.foldl runF (m, 0)).2 ∧ (l.foldl runF (m, 0)).2 ≤ l.length := by
  suffices ∀ z : Mach × Int, AllEasy z.1 → AllEasy (l.foldl runF z).1 ∧ (l.foldl runF z).1.hands.length = z.1.hands.length ∧ (l.foldl runF z).1.core.now = z.1.core.now + l.length ∧ z.2 ≤ (l.foldl runF z).2 ∧ (l.foldl runF z).2 ≤ z.2 + l.length by
    simpa using this (m, 0) e
  induction l with
  | nil => intro z hz; simpa using hz
  | cons n l ih =>
    intro z hz
    obtain ⟨h1, h2, h3, h4, h5⟩ := ih (runF z n) (hz.pick n)
    have e1 : (runF z n).1.hands.length = z.1.hands.length := pick0_len _ _
    have e2 : (runF z n).1.core.now = z.1.core.now + 1 := pick0_now _ _
    have e3 : z.2 ≤ (runF z n).2 ∧ (runF z n).2 ≤ z.2 + 1 := by unfold runF; dsimp only; split <;> omega
    refine ⟨h1, h2.trans e1, ?_, ?_, ?_⟩
    · rw [List.foldl_cons, h3, e2, List.length_cons]; omega
    · rw [List.foldl_cons]; omega
    · rw [List.foldl_cons, List.length_cons]; omega
end Go.Lk
