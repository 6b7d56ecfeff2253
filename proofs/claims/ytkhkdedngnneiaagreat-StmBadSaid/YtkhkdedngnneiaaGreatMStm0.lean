/- The machine. -/
import Derived.Test.YtkhkdedngnneiaaGreatMHand0
namespace Go.Lk
open Go.Sl
structure Mach where
  core : Core
  hands : List Hand
/-- The first i threads of a new machine. -/
def newHands (undo : Int) (ts : List (List (List Instr))) (i : Nat) : List Hand := (List.range i).map fun (t : Nat) => newHand t (ts.getD t []) undo
def goodT (c : Conf) (l : List (List Instr)) : Bool := l.all fun p => decide (checkP c p = 0)
def newMach (c : Conf) (heap : List Int) (ts : List (List (List Instr))) : Mach := ⟨newCore c heap, newHands c.undo ts c.threads.toNat⟩
theorem newHands_step {undo : Int} {ts : List (List (List Instr))} {i : Nat} {l : List (List Instr)} (h : ts.getD i [] = l) : newHands undo ts i ++ [newHand i l undo] = newHands undo ts (i + 1) := by
  simp [newHands, List.range_succ, ← h]
theorem rows_nil {α : Type} {X : SP} {sz : Nat} {enc : α → List Value} {a : Option Addr} (h : ∀ x, (enc x).length = sz) : Reads X sz enc a [] := fun _ _ => ⟨h, .inl rfl⟩
theorem rprogs_nil {X : SP} {a : Option Addr} {cap : Nat} : RProgs X ⟨a, cap, []⟩ := ⟨Nat.zero_le _, by simp, [], rfl, rows_nil (fun _ => rfl), by simp⟩
theorem getD_at {α : Type} {l : List α} {i : Nat} {x d : α} (h : l[i]? = some x) : l.getD i d = x := by simp [List.getD, h]
theorem getD_out {α : Type} {l : List α} {i : Nat} {d : α} (h : l.length ≤ i) : l.getD i d = d := by simp [List.getD, List.getElem?_eq_none h]
theorem all_step {α : Type} {p : α → Bool} {l : List α} {i : Nat} {x : α} (h : (l.take i).all p = true) (hx : l[i]? = some x) (hp : p x = true) : (l.take (i + 1)).all p = true := take_all_step h hx hp
theorem all_at {α : Type} {p : α → Bool} {l : List α} {i : Nat} {x : α} (h : l.all p = true) (hx : l[i]? = some x) : p x = true := List.all_eq_true.1 h x (List.mem_of_getElem? hx)
end Go.Lk
