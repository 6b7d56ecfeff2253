/- The program's functions on plain data, layer by layer. -/
import Derived.Test.YtkhkdedngnneiaaGreatSlDr2
namespace Go.Lk
open Go.Sl

theorem take_snoc {α : Type} {l : List α} {i : Nat} {x : α} (h : l[i]? = some x) : l.take (i + 1) = l.take i ++ [x] := by
  rw [List.take_add_one, h]; rfl

/-! mode -/

def made (m : Int) : Int := if m = 0 then 0 else if m = 1 then 1 else if m = 2 then 3 else if m = 3 then 5 else if m = 4 then 7 else 15
def mknown (m : Int) : Bool := decide (m ≥ 0) && decide (m ≤ 5)
def hurts (a b : Int) : Bool := (decide (iand (made a) 8 > 0) && b != 0) || (decide (iand (made a) 4 > 0) && decide (iand (made b) 2 > 0))
def fits (a b : Int) : Bool := ((mknown a && mknown b) && !hurts a b) && !hurts b a
def partsOf (l : List Int) : Int := l.foldl (fun p m => ior p (made m)) 0
def supFrom : Nat → Nat → Int → Int
  | 0, _, _ => 5
  | f + 1, j, p => if made j = p then j else supFrom f (j + 1) p
def supOf (p : Int) : Int := supFrom 5 0 p
def sup (l : List Int) : Int := if l.all mknown = true then supOf (partsOf l) else 5
def covers (h w : Int) : Bool := (mknown h && mknown w) && (sup [h, w] == h)
def intent (m : Int) : Int := if (m == 0 || !mknown m) = true then 0 else if iand (made m) 2 > 0 then 2 else 1
def mreads (m : Int) : Bool := mknown m && decide (iand (made m) 4 > 0)
def mwrites (m : Int) : Bool := mknown m && decide (iand (made m) 8 > 0)

theorem partsOf_snoc (l : List Int) (x : Int) : partsOf (l ++ [x]) = ior (partsOf l) (made x) := by simp [partsOf]

theorem sup_bad {l : List Int} {i : Nat} {x : Int} (hx : l[i]? = some x) (h : mknown x = false) : sup l = 5 := by
  unfold sup
  rw [if_neg]
  intro ha
  have := List.all_eq_true.1 ha x (List.mem_of_getElem? hx)
  rw [h] at this; simp at this
theorem sup_hit {l : List Int} {j : Nat} (hk : l.all mknown = true) (hj : j < 5) (h : supFrom (5 - j) j (partsOf l) = supOf (partsOf l)) (hm : made j = partsOf l) : sup l = j := by
  unfold sup
  rw [if_pos hk, ← h, show 5 - j = (4 - j) + 1 by omega, supFrom, if_pos hm]
theorem sup_step {j : Nat} {p : Int} (hj : j < 5) (h : supFrom (5 - j) j p = supOf p) (hm : made j ≠ p) : supFrom (5 - (j + 1)) (j + 1) p = supOf p := by
  rw [← h, show 5 - j = (5 - (j + 1)) + 1 by omega, supFrom, if_neg hm]
theorem sup_end {l : List Int} (hk : l.all mknown = true) (h : supFrom (5 - 5) 5 (partsOf l) = supOf (partsOf l)) : sup l = 5 := by
  unfold sup
  rw [if_pos hk, ← h]; rfl

/-! calc -/

def ckind (k : Int) : Bool := decide (k ≥ 0) && decide (k ≤ 8)
def bit (so : Bool) : Int := if so = true then 1 else 0
def folds (k was n : Int) : Int :=
  if k = 0 then wI (was + n) else if k = 1 then wI (was - n) else if k = 2 then wI (was * n) else if k = 5 then iand was n else if k = 6 then ior was n
  else if k = 7 then imax was n else imin was n
def chainB (k : Int) : List Int → Bool
  | [] => true
  | [_] => true
  | x :: y :: r => !((k == 3 && decide (x ≥ y)) || (k == 4 && x != y)) && chainB k (y :: r)
def cnone (k : Int) : Int × Int := if k = 2 ∨ k = 3 ∨ k = 4 then (1, 0) else if k = 5 then (-1, 0) else if k = 7 ∨ k = 8 then (0, 1) else (0, 0)
def eval (k : Int) (l : List Int) : Int × Int :=
  if ckind k = false then (0, 1) else match l with
  | [] => cnone k
  | x :: r => if (k == 3 || k == 4) = true then (bit (chainB k (x :: r)), 0) else (r.foldl (folds k) x, 0)
def wrap (n m : Int) : Int := if m < 1 then 0 else if n.tmod m < 0 then n.tmod m + m else n.tmod m

/-- All neighbours up to place i pass. -/
def chainTo (k : Int) (l : List Int) (i : Nat) : Bool := chainB k (l.take i)

theorem chainB_snoc (k : Int) : ∀ (l : List Int) (x y : Int), chainB k (l ++ [x, y]) = (chainB k (l ++ [x]) && !((k == 3 && decide (x ≥ y)) || (k == 4 && x != y)))
  | [], x, y => by simp [chainB]
  | [a], x, y => by simp [chainB]
  | a :: b :: l, x, y => by
    have := chainB_snoc k (b :: l) x y
    simp only [List.cons_append, chainB] at this ⊢
    rw [this, Bool.and_assoc]
theorem take_two {α : Type} {l : List α} {i : Nat} {x y : α} (hx : l[i]? = some x) (hy : l[i + 1]? = some y) : l.take (i + 2) = l.take i ++ [x, y] := by
  rw [take_snoc hy, take_snoc hx]; simp
theorem chain_step {k : Int} {l : List Int} {i : Nat} {x y : Int} (hx : l[i]? = some x) (hy : l[i + 1]? = some y) :
    chainB k (l.take (i + 2)) = (chainB k (l.take (i + 1)) && !((k == 3 && decide (x ≥ y)) || (k == 4 && x != y))) := by
  rw [take_two hx hy, chainB_snoc, take_snoc hx]
theorem chain_bad {k : Int} : ∀ {l : List Int} {i : Nat}, chainB k (l.take i) = false → chainB k l = false
  | [], i, h => by simp [chainB] at h
  | [a], i, h => by cases i <;> simp [chainB] at h
  | a :: b :: l, 0, h => by simp [chainB] at h
  | a :: b :: l, 1, h => by simp [chainB] at h
  | a :: b :: l, i + 2, h => by
    simp only [List.take_succ_cons, chainB, Bool.and_eq_false_iff] at h ⊢
    rcases h with h | h
    · exact .inl h
    · exact .inr (chain_bad (l := b :: l) (i := i + 1) (by simpa using h))
theorem chain_end {k : Int} {l : List Int} {i : Nat} (h : chainB k (l.take (i + 1)) = true) (hi : ¬ ((i + 1 : Nat) : Int) < (l.length : Int)) : chainB k l = true := by
  rw [List.take_of_length_le (by omega)] at h; exact h
theorem chain_skip {k : Int} {l : List Int} {i : Nat} (h3 : (k == 3) = false) (h4 : (k == 4) = false) (hi : ((i + 1 : Nat) : Int) < (l.length : Int)) (h : chainB k (l.take (i + 1)) = true) : chainB k (l.take (i + 2)) = true := by
  obtain ⟨x, hx⟩ : ∃ x, l[i]? = some x := ⟨_, List.getElem?_eq_getElem (by omega)⟩
  obtain ⟨y, hy⟩ : ∃ x, l[i + 1]? = some x := ⟨_, List.getElem?_eq_getElem (by omega)⟩
  rw [chain_step hx hy, h]; simp [h3, h4]
theorem tmod_bounds (n m : Int) (h : 0 < m) : -m < n.tmod m ∧ n.tmod m < m := by
  have h1 := Int.tmod_lt_of_pos n h
  have h2 := Int.tmod_lt_of_pos (-n) h
  rw [Int.neg_tmod] at h2
  exact ⟨by omega, h1⟩
theorem foldl_snoc {α β : Type} {f : β → α → β} {b : β} {l : List α} {i : Nat} {x : α} (h : l[i]? = some x) : (l.take (i + 1)).foldl f b = f ((l.take i).foldl f b) x := by
  rw [take_snoc h]; simp

theorem eval_bad {k : Int} {l : List Int} (h : ckind k = false) : eval k l = (0, 1) := by unfold eval; rw [if_pos h]
theorem eval_nil {k : Int} {l : List Int} (h : ckind k = true) (hl : l.length = 0) : eval k l = cnone k := by
  unfold eval; rw [if_neg (by simp [h])]; cases l <;> simp_all
theorem eval_chain {k : Int} {l : List Int} (h : ckind k = true) (hl : l.length ≠ 0) (hk : (k == 3 || k == 4) = true) : eval k l = (bit (chainB k l), 0) := by
  unfold eval; rw [if_neg (by simp [h])]; cases l <;> simp_all
theorem eval_fold {k x : Int} {l : List Int} (h : ckind k = true) (hl : l[0]? = some x) (hk : (k == 3 || k == 4) = false) : eval k l = ((l.drop 1).foldl (folds k) x, 0) := by
  unfold eval; rw [if_neg (by simp [h])]
  cases l with
  | nil => simp at hl
  | cons y r => simp at hl; subst hl; simp [hk]

/-! How data lie in memory. -/

def encI (x : Int) : List Value := [vi x]
def encB (b : Bool) : List Value := [vb b]

end Go.Lk
