/- What programs are, and which may stand. -/
import Derived.Test.YtkhkdedngnneiaaGreatMNew
import Derived.Test.YtkhkdedngnneiaaGreatWCalc
namespace Go.Lk
open Go.Sl
section find
variable {α : Type} {p : α → Bool} {l : List α}
/-- The first place at which p holds; -1: there is none. -/
def idxOf (p : α → Bool) (l : List α) : Int := match l.findIdx? p with
  | some i => i
  | none => -1
theorem any_step {i : Nat} {x : α} (h : (l.take i).any p = false) (hx : l[i]? = some x) (hp : p x = false) : (l.take (i + 1)).any p = false := by
  rw [List.take_add_one, hx, List.any_append, h]; simp [hp]
theorem idx_hit {i : Nat} {x : α} (h : (l.take i).any p = false) (hx : l[i]? = some x) (hp : p x = true) : idxOf p l = i := by
  have : l.findIdx? p = some i := by
    rw [List.findIdx?_eq_some_iff_getElem]
    obtain ⟨hi, rfl⟩ := List.getElem?_eq_some_iff.1 hx
    refine ⟨hi, hp, fun j hj => ?_⟩
    have := List.any_eq_false.1 h (l[j]'(by omega)) (List.mem_take_iff_getElem.2 ⟨j, by omega, rfl⟩)
    simpa using this
  simp [idxOf, this]
theorem idx_none (h : l.any p = false) : idxOf p l = -1 := by
  have : l.findIdx? p = none := by
    rw [List.findIdx?_eq_none_iff]; intro x hx
    simpa using List.any_eq_false.1 h x hx
  simp [idxOf, this]
theorem idx_any : decide (idxOf p l ≥ 0) = l.any p := by
  cases h : l.any p with
  | false => rw [idx_none h]; rfl
  | true =>
    obtain ⟨x, hx, hp⟩ := List.any_eq_true.1 h
    unfold idxOf
    cases h2 : l.findIdx? p with
    | none => rw [List.findIdx?_eq_none_iff] at h2; simp [h2 x hx] at hp
    | some i => simp
theorem idx_lt (h : idxOf p l ≥ 0) : (idxOf p l).toNat < l.length ∧ (idxOf p l) = ((idxOf p l).toNat : Int) := by
  unfold idxOf at *
  cases h2 : l.findIdx? p with
  | none => rw [h2] at h; simp at h
  | some i =>
    have := (List.findIdx?_eq_some_iff_getElem.1 h2).1
    simp; exact this
theorem idx_le : idxOf p l < l.length ∧ -1 ≤ idxOf p l := by
  unfold idxOf
  cases h2 : l.findIdx? p with
  | none => simp; omega
  | some i =>
    have := (List.findIdx?_eq_some_iff_getElem.1 h2).1
    simp; omega
end find
structure Instr where
  kind : Int
  a : Int
  b : Int
  c : Int
  l : List Int
deriving DecidableEq
/-- Is a register out of bounds? -/
def noneB (c : Conf) (r : Int) : Bool := decide (r < 0) || decide (r ≥ c.regs)
def mayI (c : Conf) (k a b d : Int) (l : List Int) (at_ many : Int) : Bool :=
  if k < 1 ∨ k > 7 then false
  else if k ≤ 5 ∧ noneB c a = true then false
  else if k ≠ 4 ∧ l.length > 0 then false
  else if k = 1 ∨ k = 2 then decide (d = -1) || !noneB c d
  else if k = 4 then ckind b && decide (0 < l.length) && decide (l.length ≤ 8) && !(l.any (noneB c))
  else if k = 5 then decide (b > at_) && decide (b ≤ many)
  else true
def may (c : Conf) (x : Instr) (at_ many : Int) : Bool := mayI c x.kind x.a x.b x.c x.l at_ many
def mayAll (c : Conf) (many : Int) : Nat → List Instr → Bool
  | _, [] => true
  | i, x :: l => may c x i many && mayAll c many (i + 1) l
def checkP (c : Conf) (p : List Instr) : Int := if c.ok = true ∧ p.length ≤ 60 ∧ mayAll c p.length 0 p = true then 0 else 2
theorem kind_cases (k : Int) : k = 1 ∨ k = 2 ∨ k = 3 ∨ k = 4 ∨ k = 5 ∨ k = 6 ∨ k = 7 ∨ (k ≠ 1 ∧ k ≠ 2 ∧ k ≠ 3 ∧ k ≠ 4 ∧ k ≠ 5 ∧ k ≠ 6 ∧ k ≠ 7) := by omega
theorem mayAll_append (c : Conf) (many : Int) (l m : List Instr) (i : Nat) : mayAll c many i (l ++ m) = (mayAll c many i l && mayAll c many (i + l.length) m) := by
  induction l generalizing i with
  | nil => simp [mayAll]
  | cons x l ih =>
    simp only [List.cons_append, mayAll, ih, Bool.and_assoc, List.length_cons]
    rw [show i + 1 + l.length = i + (l.length + 1) by omega]
theorem mayAll_step {c : Conf} {many : Int} {l : List Instr} {i : Nat} {x : Instr} (h : mayAll c many 0 (l.take i) = true) (hx : l[i]? = some x) (hp : may c x i many = true) : mayAll c many 0 (l.take (i + 1)) = true := by
  have hi := (List.getElem?_eq_some_iff.1 hx).1
  rw [List.take_add_one, hx, mayAll_append, h]
  simp [mayAll, Nat.min_eq_left (Nat.le_of_lt hi), hp]
theorem mayAll_bad {c : Conf} {many : Int} {l : List Instr} {i : Nat} {x : Instr} (hx : l[i]? = some x) (hp : may c x i many = false) : mayAll c many 0 l = false := by
  obtain ⟨hi, rfl⟩ := List.getElem?_eq_some_iff.1 hx
  rw [← List.take_append_drop i l, mayAll_append, List.drop_eq_getElem_cons hi]
  simp [mayAll, Nat.min_eq_left (Nat.le_of_lt hi), hp]
/-! Programs as they lie in memory, to be read. -/
structure InR where
  ins : Instr
  la : Option Addr
  lc : Nat
def encN (x : InR) : List Value := [vi x.ins.kind, vi x.ins.a, vi x.ins.b, vi x.ins.c, .slice x.la x.ins.l.length x.lc]
structure RowR (α : Type) where
  a : Option Addr
  cap : Nat
  l : List α
def encR1 (x : RowR Instr) : List Value := [.slice x.a x.l.length x.cap]
def encR2 (x : RowR (List Instr)) : List Value := [.slice x.a x.l.length x.cap]
def RInstr (X : SP) (r : InR) : Prop := r.ins.l.length ≤ r.lc ∧ r.ins.l.length ≤ 1099511627776 ∧ Reads X 1 encI r.la r.ins.l
def RProg (X : SP) (z : RowR Instr) : Prop := z.l.length ≤ z.cap ∧ z.l.length ≤ 1099511627776 ∧ ∃ raws : List InR, z.l = raws.map InR.ins ∧ Reads X 5 encN z.a raws ∧ ∀ r ∈ raws, RInstr X r
def RProgs (X : SP) (z : RowR (List Instr)) : Prop := z.l.length ≤ z.cap ∧ z.l.length ≤ 1099511627776 ∧ ∃ raws : List (RowR Instr), z.l = raws.map RowR.l ∧ Reads X 1 encR1 z.a raws ∧ ∀ r ∈ raws, RProg X r
def RThreads (X : SP) (z : RowR (List (List Instr))) : Prop := z.l.length ≤ z.cap ∧ z.l.length ≤ 1099511627776 ∧ ∃ raws : List (RowR (List Instr)), z.l = raws.map RowR.l ∧ Reads X 1 encR2 z.a raws ∧ ∀ r ∈ raws, RProgs X r
theorem map_at {α β : Type} {f : α → β} {l : List α} {i : Nat} {x : α} (h : l[i]? = some x) : (l.map f)[i]? = some (f x) := by simp [h]
end Go.Lk
namespace Go.Lk
theorem checkP_form {c : Conf} {p : List Instr} (h : check c ≠ 0) : checkP c p = 2 := by
  have : c.ok = false := by unfold check at h; split at h <;> simp_all
  simp [checkP, this]
theorem checkP_long {c : Conf} {p : List Instr} (h : (p.length : Int) > 60) : checkP c p = 2 := by
  rw [checkP, if_neg]; omega
theorem checkP_bad {c : Conf} {p : List Instr} {i : Nat} {x : Instr} (hx : p[i]? = some x) (hp : may c x i p.length = false) : checkP c p = 2 := by
  rw [checkP, if_neg]; simp [mayAll_bad hx hp]
theorem checkP_ok {c : Conf} {p : List Instr} (h : check c = 0) (h2 : ¬ ((p.length : Int) > 60)) (h3 : mayAll c p.length 0 p = true) : checkP c p = 0 := by
  have := (Conf.ok_iff c).2 (check_ok h)
  rw [checkP, if_pos ⟨this, by omega, h3⟩]
end Go.Lk
