/- The machine of the chapter's example. -/
import Derived.Test.YtkhkdedngnneiaaGreatMRef1
namespace Go.Lk
def conf0 : Conf := ⟨1, 1, 1, 1, 2, 0, 1, 9, 1, 0, 9, 0⟩
theorem conf0_ok : (Conf.mk 1 1 1 1 2 0 1 9 1 0 9 0).Ok := by constructor <;> decide
def mach0 : Mach := newMach conf0 [0] []
def mach1 : Mach := (runs0 mach0 [0, 1, 0, 5, (-1)]).1
theorem mach0_easy : AllEasy mach0 := ⟨by
  intro h hh
  have e : mach0.hands = [newHand 0 [] 1, newHand 1 [] 1] := rfl
  rw [e] at hh; simp at hh
  rcases hh with rfl | rfl <;> exact .inl ⟨rfl, by decide⟩⟩
theorem mach0_over : every mach0 [6] = false := by decide
theorem mach0_quiet : every mach0 [0, 5, 6] = true := by decide
theorem mach1_over : every mach1 [6] = true := by decide
theorem mach1_two : (runs0 mach0 [0, 1, 0, 5, (-1)]).2 = 2 := by decide
theorem mach1_now : mach1.core.now = 5 := by decide
theorem mach1_len : mach1.hands.length = 2 := by decide
theorem words0 : (1 : Int) = words (Conf.mk 1 1 1 1 2 0 1 9 1 0 9 0) := by decide
end Go.Lk
namespace Go.Lk
open Go.Sl
def constI : Instr := ⟨3, 0, 0, 0, []⟩
def jumpI : Instr := ⟨5, 0, 0, 0, []⟩
theorem iand3 (x : Int) : 0 ≤ iand x 3 ∧ iand x 3 ≤ 3 := by
  have h : (BitVec.ofInt 64 x &&& BitVec.ofInt 64 3).toNat ≤ 3 := by
    rw [BitVec.toNat_and]; exact Nat.and_le_right
  unfold iand
  rw [wrap_id (by omega) (by omega)]
  omega
theorem jump_bad (c : Conf) : checkP c [jumpI] = 2 := by
  rw [checkP, if_neg]; simp [mayAll, may, mayI, jumpI]
theorem jump_form (c : Conf) (a : Option Addr) (n : Nat) : (([] ++ [RowR.mk a n [[jumpI]]]).map RowR.l).all (goodT c) = false := by
  simp [goodT, jump_bad]
theorem jump_rows {X : SP} {a b : Option Addr} (h1 : Reads X 1 encR1 a [RowR.mk b 1 [jumpI]]) (h2 : Reads X 5 encN b [InR.mk jumpI none 0]) :
    ∀ r ∈ [] ++ [RowR.mk a 1 [[jumpI]]], RProgs X r := by
  intro r hr
  simp at hr; subst hr
  refine ⟨by simp, by simp, _, rfl, h1, fun r hr => ?_⟩
  simp at hr; subst hr
  refine ⟨by simp, by simp, _, rfl, h2, fun r hr => ?_⟩
  simp at hr; subst hr
  exact ⟨by simp [jumpI], by simp [jumpI], rows_nil (fun _ => rfl)⟩
end Go.Lk
