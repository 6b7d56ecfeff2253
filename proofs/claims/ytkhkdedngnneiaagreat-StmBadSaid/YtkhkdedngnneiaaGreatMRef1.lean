/- The small references of the first chapters. -/
import Derived.Test.YtkhkdedngnneiaaGreatMEasy
namespace Go.Lk
theorem ref_no {c : Conf} (h : ¬ c.Ok) : check c = 1 := by
  unfold check; rw [if_neg]; intro k; exact h ((Conf.ok_iff c).1 k)
theorem ref_part_bad {c : Conf} {i : Nat} {x : Int} (hx : [c.regions, c.objects, c.stripes, c.width][i]? = some x) (h : x < 1 ∨ x > 8) : check c = 1 := by
  refine ref_no fun hk => ?_
  have h1 := hk.regions; have h2 := hk.objects; have h3 := hk.stripes; have h4 := hk.width
  have hi := (List.getElem?_eq_some_iff.1 hx).1
  simp at hi
  obtain rfl | rfl | rfl | rfl : i = 0 ∨ i = 1 ∨ i = 2 ∨ i = 3 := by omega
  all_goals (simp at hx; subst hx; omega)
theorem ref_bad {c : Conf} (h : c.threads < 1 ∨ c.threads > 64 ∨ c.slots < 0 ∨ c.slots > 48 ∨ c.regs < 1 ∨ c.regs > 8 ∨ c.locks < 1 ∨ c.locks > 4096 ∨ c.undo < 1 ∨ c.undo > 1000 ∨ c.escalate < 0 ∨ c.escalate > 64 ∨
    c.tickets < 1 ∨ c.tickets > 10000 ∨ c.policy < 0 ∨ c.policy > 2) : check c = 1 := by
  refine ref_no fun hk => ?_
  have := hk.threads; have := hk.slots; have := hk.regs; have := hk.locks; have := hk.undo; have := hk.escalate; have := hk.tickets; have := hk.policy
  omega
def partB (x : Int) : Bool := !(decide (x < 1) || decide (x > 8))
theorem ref_ok {c : Conf} (h4 : [c.regions, c.objects, c.stripes, c.width].all partB = true) (h : ¬ (c.threads < 1 ∨ c.threads > 64 ∨ c.slots < 0 ∨ c.slots > 48 ∨ c.regs < 1 ∨ c.regs > 8 ∨ c.locks < 1 ∨ c.locks > 4096 ∨ c.undo < 1 ∨ c.undo > 1000 ∨ c.escalate < 0 ∨ c.escalate > 64 ∨
    c.tickets < 1 ∨ c.tickets > 10000 ∨ c.policy < 0 ∨ c.policy > 2)) : check c = 0 := by
  refine check_of ?_
  simp [partB] at h4
  constructor <;> omega
theorem words_of {c : Conf} (h : c.Ok) : words c = c.regions * c.objects * c.stripes * c.width := by
  simp [words, countS, (Conf.ok_iff c).2 h]
theorem words_no {c : Conf} (h : check c ≠ 0) : words c = 0 := by
  have : c.ok = false := by unfold check at h; split at h <;> simp_all
  simp [words, countS, this]
end Go.Lk
