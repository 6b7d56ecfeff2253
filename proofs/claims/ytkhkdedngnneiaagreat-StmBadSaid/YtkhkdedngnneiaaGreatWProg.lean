/- The walks of the layer prog: printed by a program of this repo (wip/gen). -/
import Derived.Test.YtkhkdedngnneiaaGreatWNew
import Derived.Test.YtkhkdedngnneiaaGreatMProg
import Derived.Test.YtkhkdedngnneiaaGreatProg
namespace Go.Proofs
open Go Go.Sl Go.Lk
set_option maxRecDepth 20000
set_option linter.unusedVariables false

theorem c_word_1  : Ct Tryz.prog 187 [vi 1] [] (fun _ : Unit => .tuple #[.string ⟨#[114, 101, 97, 100]⟩, vi 3, vb false]) (fun _ => []) := by
  refine ct_intro Tryz.f187 20 Tryz.func187 rfl rfl rfl (fun E R => ?_)
  refine g_adv 25 [] 1 [(2, .string ⟨#[114, 101, 97, 100]⟩), (3, vi 3), (4, vb false)] (by kernel_rfl) ?_
  refine g_post () [0] [.string ⟨#[114, 101, 97, 100]⟩, vi 3, vb false] (.tmp (by kernel_rfl) (.tmp (by kernel_rfl) (.tmp (by kernel_rfl) .nil))) (rfl) (by kernel_rfl)

theorem c_word_2  : Ct Tryz.prog 187 [vi 2] [] (fun _ : Unit => .tuple #[.string ⟨#[119, 114, 105, 116, 101]⟩, vi 3, vb false]) (fun _ => []) := by
  refine ct_intro Tryz.f187 20 Tryz.func187 rfl rfl rfl (fun E R => ?_)
  refine g_adv 31 [] 1 [(2, .string ⟨#[119, 114, 105, 116, 101]⟩), (3, vi 3), (4, vb false)] (by kernel_rfl) ?_
  refine g_post () [0] [.string ⟨#[119, 114, 105, 116, 101]⟩, vi 3, vb false] (.tmp (by kernel_rfl) (.tmp (by kernel_rfl) (.tmp (by kernel_rfl) .nil))) (rfl) (by kernel_rfl)

theorem c_word_3  : Ct Tryz.prog 187 [vi 3] [] (fun _ : Unit => .tuple #[.string ⟨#[99, 111, 110, 115, 116]⟩, vi 2, vb false]) (fun _ => []) := by
  refine ct_intro Tryz.f187 20 Tryz.func187 rfl rfl rfl (fun E R => ?_)
  refine g_adv 37 [] 1 [(2, .string ⟨#[99, 111, 110, 115, 116]⟩), (3, vi 2), (4, vb false)] (by kernel_rfl) ?_
  refine g_post () [0] [.string ⟨#[99, 111, 110, 115, 116]⟩, vi 2, vb false] (.tmp (by kernel_rfl) (.tmp (by kernel_rfl) (.tmp (by kernel_rfl) .nil))) (rfl) (by kernel_rfl)

theorem c_word_4  : Ct Tryz.prog 187 [vi 4] [] (fun _ : Unit => .tuple #[.string ⟨#[99, 97, 108, 99]⟩, vi 2, vb true]) (fun _ => []) := by
  refine ct_intro Tryz.f187 20 Tryz.func187 rfl rfl rfl (fun E R => ?_)
  refine g_adv 43 [] 1 [(2, .string ⟨#[99, 97, 108, 99]⟩), (3, vi 2), (4, vb true)] (by kernel_rfl) ?_
  refine g_post () [0] [.string ⟨#[99, 97, 108, 99]⟩, vi 2, vb true] (.tmp (by kernel_rfl) (.tmp (by kernel_rfl) (.tmp (by kernel_rfl) .nil))) (rfl) (by kernel_rfl)

theorem c_word_5  : Ct Tryz.prog 187 [vi 5] [] (fun _ : Unit => .tuple #[.string ⟨#[106, 117, 109, 112]⟩, vi 2, vb false]) (fun _ => []) := by
  refine ct_intro Tryz.f187 20 Tryz.func187 rfl rfl rfl (fun E R => ?_)
  refine g_adv 49 [] 1 [(2, .string ⟨#[106, 117, 109, 112]⟩), (3, vi 2), (4, vb false)] (by kernel_rfl) ?_
  refine g_post () [0] [.string ⟨#[106, 117, 109, 112]⟩, vi 2, vb false] (.tmp (by kernel_rfl) (.tmp (by kernel_rfl) (.tmp (by kernel_rfl) .nil))) (rfl) (by kernel_rfl)

theorem c_word_6  : Ct Tryz.prog 187 [vi 6] [] (fun _ : Unit => .tuple #[.string ⟨#[114, 101, 116, 114, 121]⟩, vi 0, vb false]) (fun _ => []) := by
  refine ct_intro Tryz.f187 20 Tryz.func187 rfl rfl rfl (fun E R => ?_)
  refine g_adv 55 [] 1 [(2, .string ⟨#[114, 101, 116, 114, 121]⟩), (3, vi 0), (4, vb false)] (by kernel_rfl) ?_
  refine g_post () [0] [.string ⟨#[114, 101, 116, 114, 121]⟩, vi 0, vb false] (.tmp (by kernel_rfl) (.tmp (by kernel_rfl) (.tmp (by kernel_rfl) .nil))) (rfl) (by kernel_rfl)

theorem c_word_7  : Ct Tryz.prog 187 [vi 7] [] (fun _ : Unit => .tuple #[.string ⟨#[97, 98, 111, 114, 116]⟩, vi 0, vb false]) (fun _ => []) := by
  refine ct_intro Tryz.f187 20 Tryz.func187 rfl rfl rfl (fun E R => ?_)
  refine g_adv 61 [] 1 [(2, .string ⟨#[97, 98, 111, 114, 116]⟩), (3, vi 0), (4, vb false)] (by kernel_rfl) ?_
  refine g_post () [0] [.string ⟨#[97, 98, 111, 114, 116]⟩, vi 0, vb false] (.tmp (by kernel_rfl) (.tmp (by kernel_rfl) (.tmp (by kernel_rfl) .nil))) (rfl) (by kernel_rfl)

theorem c_word_no (k : Int) (n1 : k ≠ 1) (n2 : k ≠ 2) (n3 : k ≠ 3) (n4 : k ≠ 4) (n5 : k ≠ 5) (n6 : k ≠ 6) (n7 : k ≠ 7) : Ct Tryz.prog 187 [vi k] [] (fun _ : Unit => .tuple #[.string ⟨#[]⟩, vi 0, vb false]) (fun _ => []) := by
  refine ct_intro Tryz.f187 20 Tryz.func187 rfl rfl rfl (fun E R => ?_)
  refine g_adv 17 [.c 53, .b 0, .c 7] 1 [(5, vi k), (6, vb (k == 1))] (by kernel_rfl) ?_
  refine g_cond (k == 1) (by kernel_rfl) (fun h1 => ?_) (fun h1 => ?_)
  · have h1p : k = 1 := eq_of_beq h1
    exact absurd h1p n1
  · have h1p : k ≠ 1 := ne_of_beq_false h1
    refine g_adv 5 [.c 215] 1 [(5, vi k), (8, vb (k == 2))] (by kernel_rfl) ?_
    refine g_cond (k == 2) (by kernel_rfl) (fun h2 => ?_) (fun h2 => ?_)
    · have h2p : k = 2 := eq_of_beq h2
      exact absurd h2p n2
    · have h2p : k ≠ 2 := ne_of_beq_false h2
      refine g_adv 5 [.c 863] 1 [(5, vi k), (10, vb (k == 3))] (by kernel_rfl) ?_
      refine g_cond (k == 3) (by kernel_rfl) (fun h3 => ?_) (fun h3 => ?_)
      · have h3p : k = 3 := eq_of_beq h3
        exact absurd h3p n3
      · have h3p : k ≠ 3 := ne_of_beq_false h3
        refine g_adv 5 [.c 3455] 1 [(5, vi k), (12, vb (k == 4))] (by kernel_rfl) ?_
        refine g_cond (k == 4) (by kernel_rfl) (fun h4 => ?_) (fun h4 => ?_)
        · have h4p : k = 4 := eq_of_beq h4
          exact absurd h4p n4
        · have h4p : k ≠ 4 := ne_of_beq_false h4
          refine g_adv 5 [.c 13823] 1 [(5, vi k), (14, vb (k == 5))] (by kernel_rfl) ?_
          refine g_cond (k == 5) (by kernel_rfl) (fun h5 => ?_) (fun h5 => ?_)
          · have h5p : k = 5 := eq_of_beq h5
            exact absurd h5p n5
          · have h5p : k ≠ 5 := ne_of_beq_false h5
            refine g_adv 5 [.c 55295] 1 [(5, vi k), (16, vb (k == 6))] (by kernel_rfl) ?_
            refine g_cond (k == 6) (by kernel_rfl) (fun h6 => ?_) (fun h6 => ?_)
            · have h6p : k = 6 := eq_of_beq h6
              exact absurd h6p n6
            · have h6p : k ≠ 6 := ne_of_beq_false h6
              refine g_adv 5 [.c 221183] 1 [(18, vb (k == 7))] (by kernel_rfl) ?_
              refine g_cond (k == 7) (by kernel_rfl) (fun h7 => ?_) (fun h7 => ?_)
              · have h7p : k = 7 := eq_of_beq h7
                exact absurd h7p n7
              · have h7p : k ≠ 7 := ne_of_beq_false h7
                refine g_adv 9 [] 3 [(2, .string ⟨#[]⟩), (3, vi 0), (4, vb false)] (by kernel_rfl) ?_
                refine g_post () [0] [.string ⟨#[]⟩, vi 0, vb false] (.tmp (by kernel_rfl) (.tmp (by kernel_rfl) (.tmp (by kernel_rfl) .nil))) (rfl) (by kernel_rfl)

theorem c_prog_may_1 (b : Nat) (c : Conf) (r : Int) : Ct Tryz.prog 186 [vi r, pt b 0] [.obj b (.cells #[vi c.regions, vi c.objects, vi c.stripes, vi c.width, vi c.threads, vi c.slots, vi c.regs, vi c.locks, vi c.undo, vi c.escalate, vi c.tickets, vi c.policy] 25 (0, 0))] (fun _ : Unit => vb (noneB c r)) (fun _ => [.obj b (.cells #[vi c.regions, vi c.objects, vi c.stripes, vi c.width, vi c.threads, vi c.slots, vi c.regs, vi c.locks, vi c.undo, vi c.escalate, vi c.tickets, vi c.policy] 25 (0, 0))]) := by
  refine ct_intro Tryz.f186 12 Tryz.func186 rfl rfl rfl (fun E R => ?_)
  refine g_adv 9 [.o 6 3, .c 7] 1 [(0, vi r), (1, pt b 0), (6, vb (decide (r < 0)))] (by kernel_rfl) ?_
  refine g_bool 6 (decide (r < 0)) (by kernel_rfl) (fun h1 => ?_) (fun h1 => ?_)
  · have h1p : r < 0 := of_decide_eq_true h1
    refine g_adv 8 [] 2 [(3, vb true)] (by kernel_rfl) ?_
    refine g_post () [0, 0] [vb true] (.tmp (by kernel_rfl) .nil) (by simp [resV, noneB, *]) (by kernel_rfl)
  · have h1p : ¬ (r < 0) := of_decide_eq_false h1
    refine g_adv 2 [.o 6 5] 1 [(6, vb false), (7, vi r), (8, pt b 6)] (by kernel_rfl) ?_
    refine g_op (by kernel_rfl) (ot_load 0 b 6 (vi c.regs) (by kernel_rfl) (by kernel_rfl) ?_)
    refine g_adv 5 [] 2 [(3, vb (decide (r ≥ c.regs)))] (by kernel_rfl) ?_
    refine g_post () [0, 0] [vb (decide (r ≥ c.regs))] (.tmp (by kernel_rfl) .nil) (by simp [resV, noneB, *]) (by kernel_rfl)

theorem c_index_none (b : Nat) (c : Conf) (a : Option Addr) (cp : Nat) (l : List Int) (X : SP) (rl : Reads X 1 encI a l) (hl : l.length ≤ 1099511627776) : Ct Tryz.prog 226 [.slice a l.length cp, .func (.func 186) #[] #[pt b 0]] [.sp X, .obj b (.cells #[vi c.regions, vi c.objects, vi c.stripes, vi c.width, vi c.threads, vi c.slots, vi c.regs, vi c.locks, vi c.undo, vi c.escalate, vi c.tickets, vi c.policy] 25 (0, 0))] (fun _ : Unit => vi (idxOf (noneB c) l)) (fun _ => [.sp X, .obj b (.cells #[vi c.regions, vi c.objects, vi c.stripes, vi c.width, vi c.threads, vi c.slots, vi c.regs, vi c.locks, vi c.undo, vi c.escalate, vi c.tickets, vi c.policy] 25 (0, 0))]) := by
  refine ct_intro Tryz.f226 19 Tryz.func226 rfl rfl rfl (fun E R => ?_)
  refine g_adv 12 [.c 26, .b 0, .c 7] 1 [(0, .slice a l.length cp), (1, .func (.func 186) #[] #[pt b 0]), (7, vi (l.length : Int)), (8, vi 0)] (by kernel_rfl) ?_
  refine g_loop' (fun (x : { x : Nat // match x with | i => i ≤ l.length ∧ (l.take i).any (noneB c) = false }) => match x.1 with | i => ([(0, .slice a l.length cp), (1, .func (.func 186) #[] #[pt b 0]), (7, vi (l.length : Int)), (8, vi (i : Int))], [.sp X, .obj b (.cells #[vi c.regions, vi c.objects, vi c.stripes, vi c.width, vi c.threads, vi c.slots, vi c.regs, vi c.locks, vi c.undo, vi c.escalate, vi c.tickets, vi c.policy] 25 (0, 0)), .sp R])) (fun (x : { x : Nat // match x with | i => i ≤ l.length ∧ (l.take i).any (noneB c) = false }) => match x.1 with | i => l.length - i) ⟨0, by simp⟩ [0, 0, 0] (by kernel_rfl) (by kernel_rfl) (by kernel_rfl) ?_
  rintro ⟨i, hi1⟩
  have hi1 : i ≤ l.length ∧ (l.take i).any (noneB c) = false := hi1
  obtain ⟨hi1_0, hi1_1⟩ := hi1
  refine g_adv 5 [.c 210, .c 211] 1 [(0, .slice a l.length cp), (1, .func (.func 186) #[] #[pt b 0]), (7, vi (l.length : Int)), (8, vi (i : Int)), (9, vb (decide ((i : Int) < (l.length : Int))))] (by kernel_rfl) ?_
  refine g_cond (decide ((i : Int) < (l.length : Int))) (by kernel_rfl) (fun h1 => ?_) (fun h1 => ?_)
  · have h1p : (i : Int) < (l.length : Int) := of_decide_eq_true h1
    refine g_adv 13 [.o 3378 3, .c 3379, .b 1, .c 423] 2 [(0, .slice a l.length cp), (1, .func (.func 186) #[] #[pt b 0]), (5, vi (i : Int)), (7, vi (l.length : Int)), (8, vi (i : Int)), (11, .func (.func 186) #[] #[pt b 0]), (12, .slice a l.length cp), (13, vi (i : Int))] (by kernel_rfl) ?_
    refine g_some 0 rl (by kernel_rfl) (by omega) ?_
    rintro b1 o1 rfl
    refine g_op (by kernel_rfl) (ot_val (pt b1 (o1 + i * 1)) (run_ix b1 o1 l.length cp (i : Int) 1 (by kernel_rfl) (by omega) (by omega)) ?_)
    obtain ⟨x1, hx1⟩ : ∃ x, l[i]? = some x := ⟨_, List.getElem?_eq_getElem (by omega)⟩
    refine g_op (by kernel_rfl) (ot_loadS 0 b1 o1 i 0 (o1 + i * 1) (vi x1) rl (by kernel_rfl) (by kernel_rfl) (by rfl) hx1 (by rfl) ?_)
    refine g_op (by kernel_rfl) (ot_call [1] (c_prog_may_1 b c x1) (by kernel_rfl) (by kernel_rfl) ?_)
    intro _
    refine g_adv 1 [] 1 [(0, .slice (some ⟨b1, o1, none⟩) l.length cp), (1, .func (.func 186) #[] #[pt b 0]), (5, vi (i : Int)), (7, vi (l.length : Int)), (8, vi (i : Int)), (16, vb (noneB c x1))] (by kernel_rfl) ?_
    refine g_cond (noneB c x1) (by kernel_rfl) (fun h2 => ?_) (fun h2 => ?_)
    · have h2p : noneB c x1 = true := h2
      refine g_adv 6 [] 6 [(4, vi (i : Int))] (by kernel_rfl) ?_
      refine g_post () [1, 0, 0] [vi (i : Int)] (.tmp (by kernel_rfl) .nil) (by first | (rw [idx_hit hi1_1 hx1 (by first | assumption | (simp_all; done))]; rfl) | (rw [idx_none hi1_1]; rfl)) (by kernel_rfl)
    · have h2p : noneB c x1 = false := h2
      refine g_adv 4 [.o 423 1] 3 [(0, .slice (some ⟨b1, o1, none⟩) l.length cp), (1, .func (.func 186) #[] #[pt b 0]), (7, vi (l.length : Int)), (18, vi (wI ((i : Int) + 1)))] (by kernel_rfl) ?_
      refine g_val 18 (vi (wI ((i : Int) + 1))) (vi ((i + 1 : Nat) : Int)) (wI_eq (by omega) (by omega) (by omega)) (by kernel_rfl) ?_
      refine g_adv 2 [] 1 [(0, .slice (some ⟨b1, o1, none⟩) l.length cp), (1, .func (.func 186) #[] #[pt b 0]), (7, vi (l.length : Int)), (8, vi ((i + 1 : Nat) : Int))] (by kernel_rfl) ?_
      refine g_round ⟨i + 1, by exact ⟨by omega, any_step hi1_1 hx1 (by first | assumption | (simp_all; done))⟩⟩ [1, 0, 0] (by first | omega | (simp; done) | (simp; omega)) (by kernel_rfl) (by kernel_rfl)
  · have h1p : ¬ ((i : Int) < (l.length : Int)) := of_decide_eq_false h1
    obtain rfl : i = l.length := by omega
    rw [List.take_length] at hi1_1
    refine g_adv 6 [] 5 [(4, vi (-1))] (by kernel_rfl) ?_
    refine g_post () [0, 0, 0] [vi (-1)] (.tmp (by kernel_rfl) .nil) (by first | (rw [idx_hit hi1_1 hx1 (by first | assumption | (simp_all; done))]; rfl) | (rw [idx_none hi1_1]; rfl)) (by kernel_rfl)

theorem c_contains_none (b : Nat) (c : Conf) (a : Option Addr) (cp : Nat) (l : List Int) (X : SP) (rl : Reads X 1 encI a l) (hl : l.length ≤ 1099511627776) : Ct Tryz.prog 189 [.slice a l.length cp, .func (.func 186) #[] #[pt b 0]] [.sp X, .obj b (.cells #[vi c.regions, vi c.objects, vi c.stripes, vi c.width, vi c.threads, vi c.slots, vi c.regs, vi c.locks, vi c.undo, vi c.escalate, vi c.tickets, vi c.policy] 25 (0, 0))] (fun _ : Unit => vb (l.any (noneB c))) (fun _ => [.sp X, .obj b (.cells #[vi c.regions, vi c.objects, vi c.stripes, vi c.width, vi c.threads, vi c.slots, vi c.regs, vi c.locks, vi c.undo, vi c.escalate, vi c.tickets, vi c.policy] 25 (0, 0))]) := by
  refine ct_intro Tryz.f189 9 Tryz.func189 rfl rfl rfl (fun E R => ?_)
  refine g_adv 8 [.o 6 2, .c 7] 1 [(5, .slice a l.length cp), (6, .func (.func 186) #[] #[pt b 0])] (by kernel_rfl) ?_
  refine g_op (by kernel_rfl) (ot_call [0, 0] (c_index_none b c a cp l X rl (by first | omega | assumption | (simp; done) | (simp; omega))) (by kernel_rfl) (by kernel_rfl) ?_)
  intro _
  refine g_adv 4 [] 2 [(4, vb (decide (idxOf (noneB c) l ≥ 0)))] (by kernel_rfl) ?_
  refine g_post () [0, 0, 0] [vb (decide (idxOf (noneB c) l ≥ 0))] (.tmp (by kernel_rfl) .nil) (by rw [← idx_any]; rfl) (by kernel_rfl)

theorem c_prog_may (c : Conf) (k : Int) (a : Int) (b : Int) (d : Int) (la : Option Addr) (lc : Nat) (l : List Int) (at_ : Int) (many : Int) (X : SP) (rl : Reads X 1 encI la l) (hl : l.length ≤ 1099511627776) : Ct Tryz.prog 143 [.agg #[vi c.regions, vi c.objects, vi c.stripes, vi c.width, vi c.threads, vi c.slots, vi c.regs, vi c.locks, vi c.undo, vi c.escalate, vi c.tickets, vi c.policy], .agg #[vi k, vi a, vi b, vi d, .slice la l.length lc], vi at_, vi many] [.sp X] (fun _ : Unit => vb (mayI c k a b d l at_ many)) (fun _ => [.sp X]) := by
  refine ct_intro Tryz.f143 103 Tryz.func143 rfl rfl rfl (fun E R => ?_)
  rcases kind_cases k with rfl | rfl | rfl | rfl | rfl | rfl | rfl | ⟨n1, n2, n3, n4, n5, n6, n7⟩
  · refine g_adv 2 [.o 2 0, .c 3] 1 [(0, .agg #[vi c.regions, vi c.objects, vi c.stripes, vi c.width, vi c.threads, vi c.slots, vi c.regs, vi c.locks, vi c.undo, vi c.escalate, vi c.tickets, vi c.policy]), (1, .agg #[vi 1, vi a, vi b, vi d, .slice la l.length lc]), (2, vi at_), (3, vi many)] (by kernel_rfl) ?_
    refine g_op (by kernel_rfl) (ot_new #[vi c.regions, vi c.objects, vi c.stripes, vi c.width, vi c.threads, vi c.slots, vi c.regs, vi c.locks, vi c.undo, vi c.escalate, vi c.tickets, vi c.policy] 25 (by kernel_rfl) ?_)
    intro b1
    refine g_op (by kernel_rfl) (ot_new #[vi 1, vi a, vi b, vi d, .slice la l.length lc] 38 (by kernel_rfl) ?_)
    intro b2
    refine g_adv 10 [.o 14 1, .c 15] 2 [(2, vi at_), (3, vi many), (5, pt b2 0), (9, .func (.func 186) #[] #[pt b1 0]), (15, pt b2 0)] (by kernel_rfl) ?_
    refine g_op (by kernel_rfl) (ot_load 0 b2 0 (vi 1) (by kernel_rfl) (by kernel_rfl) ?_)
    refine g_op (by kernel_rfl) (ot_call [] (c_word_1) (by kernel_rfl) (by kernel_rfl) ?_)
    intro _
    refine g_adv 20 [.o 120 8, .c 121, .b 0, .c 31] 2 [(2, vi at_), (3, vi many), (5, pt b2 0), (9, .func (.func 186) #[] #[pt b1 0]), (12, vb false), (24, vb false), (27, vb true), (28, .func (.func 186) #[] #[pt b1 0]), (29, pt b2 1)] (by kernel_rfl) ?_
    refine g_op (by kernel_rfl) (ot_load 0 b2 1 (vi a) (by kernel_rfl) (by kernel_rfl) ?_)
    refine g_op (by kernel_rfl) (ot_call [1] (c_prog_may_1 b1 c a) (by kernel_rfl) (by kernel_rfl) ?_)
    intro _
    refine g_adv 3 [.o 120 13] 1 [(2, vi at_), (3, vi many), (5, pt b2 0), (9, .func (.func 186) #[] #[pt b1 0]), (12, vb false), (34, vb (noneB c a))] (by kernel_rfl) ?_
    refine g_bool 34 (noneB c a) (by kernel_rfl) (fun h1 => ?_) (fun h1 => ?_)
    · have h1p : noneB c a = true := h1
      refine g_adv 17 [] 4 [(8, vb false)] (by kernel_rfl) ?_
      refine g_post () [2, 2] [vb false] (.tmp (by kernel_rfl) .nil) (by ((clear rl hl; simp_all [resV, mayI]) <;> (intros; first | omega | (exfalso; omega)))) (by kernel_rfl)
    · have h1p : noneB c a = false := h1
      refine g_adv 4 [.o 120 17] 1 [(2, vi at_), (3, vi many), (5, pt b2 0), (9, .func (.func 186) #[] #[pt b1 0]), (34, vb false), (37, vb true), (38, pt b2 4)] (by kernel_rfl) ?_
      refine g_op (by kernel_rfl) (ot_load 1 b2 4 (.slice la l.length lc) (by kernel_rfl) (by kernel_rfl) ?_)
      refine g_adv 6 [] 1 [(2, vi at_), (3, vi many), (5, pt b2 0), (9, .func (.func 186) #[] #[pt b1 0]), (21, vb (decide ((l.length : Int) > 0)))] (by kernel_rfl) ?_
      refine g_cond (decide ((l.length : Int) > 0)) (by kernel_rfl) (fun h2 => ?_) (fun h2 => ?_)
      · have h2p : (l.length : Int) > 0 := of_decide_eq_true h2
        refine g_adv 5 [] 3 [(8, vb false)] (by kernel_rfl) ?_
        refine g_post () [2, 2] [vb false] (.tmp (by kernel_rfl) .nil) (by ((clear rl hl; simp_all [resV, mayI]) <;> (intros; first | omega | (exfalso; omega)))) (by kernel_rfl)
      · have h2p : ¬ ((l.length : Int) > 0) := of_decide_eq_false h2
        refine g_adv 3 [.o 486 1, .c 487] 1 [(2, vi at_), (3, vi many), (5, pt b2 0), (9, .func (.func 186) #[] #[pt b1 0]), (45, pt b2 0)] (by kernel_rfl) ?_
        refine g_op (by kernel_rfl) (ot_load 1 b2 0 (vi 1) (by kernel_rfl) (by kernel_rfl) ?_)
        refine g_adv 12 [.o 1948 1, .c 1949] 2 [(5, pt b2 0), (9, .func (.func 186) #[] #[pt b1 0]), (53, pt b2 3)] (by kernel_rfl) ?_
        refine g_op (by kernel_rfl) (ot_load 1 b2 3 (vi d) (by kernel_rfl) (by kernel_rfl) ?_)
        refine g_adv 2 [.o 1948 4] 1 [(5, pt b2 0), (9, .func (.func 186) #[] #[pt b1 0]), (56, vb (d == (-1)))] (by kernel_rfl) ?_
        refine g_bool 56 (d == (-1)) (by kernel_rfl) (fun h3 => ?_) (fun h3 => ?_)
        · have h3p : d = (-1) := eq_of_beq h3
          refine g_adv 9 [] 4 [(8, vb true)] (by kernel_rfl) ?_
          refine g_post () [2, 2] [vb true] (.tmp (by kernel_rfl) .nil) (by ((clear rl hl; simp_all [resV, mayI]) <;> (intros; first | omega | (exfalso; omega)))) (by kernel_rfl)
        · have h3p : d ≠ (-1) := ne_of_beq_false h3
          refine g_adv 2 [.o 1948 6] 1 [(56, vb false), (57, .func (.func 186) #[] #[pt b1 0]), (58, pt b2 3)] (by kernel_rfl) ?_
          refine g_op (by kernel_rfl) (ot_load 1 b2 3 (vi d) (by kernel_rfl) (by kernel_rfl) ?_)
          refine g_op (by kernel_rfl) (ot_call [0] (c_prog_may_1 b1 c d) (by kernel_rfl) (by kernel_rfl) ?_)
          intro _
          refine g_adv 5 [] 4 [(8, vb (!(noneB c d)))] (by kernel_rfl) ?_
          refine g_post () [2, 2] [vb (!(noneB c d))] (.tmp (by kernel_rfl) .nil) (by ((clear rl hl; simp_all [resV, mayI]) <;> (intros; first | omega | (exfalso; omega)))) (by kernel_rfl)
  · refine g_adv 2 [.o 2 0, .c 3] 1 [(0, .agg #[vi c.regions, vi c.objects, vi c.stripes, vi c.width, vi c.threads, vi c.slots, vi c.regs, vi c.locks, vi c.undo, vi c.escalate, vi c.tickets, vi c.policy]), (1, .agg #[vi 2, vi a, vi b, vi d, .slice la l.length lc]), (2, vi at_), (3, vi many)] (by kernel_rfl) ?_
    refine g_op (by kernel_rfl) (ot_new #[vi c.regions, vi c.objects, vi c.stripes, vi c.width, vi c.threads, vi c.slots, vi c.regs, vi c.locks, vi c.undo, vi c.escalate, vi c.tickets, vi c.policy] 25 (by kernel_rfl) ?_)
    intro b1
    refine g_op (by kernel_rfl) (ot_new #[vi 2, vi a, vi b, vi d, .slice la l.length lc] 38 (by kernel_rfl) ?_)
    intro b2
    refine g_adv 10 [.o 14 1, .c 15] 2 [(2, vi at_), (3, vi many), (5, pt b2 0), (9, .func (.func 186) #[] #[pt b1 0]), (15, pt b2 0)] (by kernel_rfl) ?_
    refine g_op (by kernel_rfl) (ot_load 0 b2 0 (vi 2) (by kernel_rfl) (by kernel_rfl) ?_)
    refine g_op (by kernel_rfl) (ot_call [] (c_word_2) (by kernel_rfl) (by kernel_rfl) ?_)
    intro _
    refine g_adv 20 [.o 120 8, .c 121, .b 0, .c 31] 2 [(2, vi at_), (3, vi many), (5, pt b2 0), (9, .func (.func 186) #[] #[pt b1 0]), (12, vb false), (24, vb false), (27, vb true), (28, .func (.func 186) #[] #[pt b1 0]), (29, pt b2 1)] (by kernel_rfl) ?_
    refine g_op (by kernel_rfl) (ot_load 0 b2 1 (vi a) (by kernel_rfl) (by kernel_rfl) ?_)
    refine g_op (by kernel_rfl) (ot_call [1] (c_prog_may_1 b1 c a) (by kernel_rfl) (by kernel_rfl) ?_)
    intro _
    refine g_adv 3 [.o 120 13] 1 [(2, vi at_), (3, vi many), (5, pt b2 0), (9, .func (.func 186) #[] #[pt b1 0]), (12, vb false), (34, vb (noneB c a))] (by kernel_rfl) ?_
    refine g_bool 34 (noneB c a) (by kernel_rfl) (fun h1 => ?_) (fun h1 => ?_)
    · have h1p : noneB c a = true := h1
      refine g_adv 17 [] 4 [(8, vb false)] (by kernel_rfl) ?_
      refine g_post () [2, 2] [vb false] (.tmp (by kernel_rfl) .nil) (by ((clear rl hl; simp_all [resV, mayI]) <;> (intros; first | omega | (exfalso; omega)))) (by kernel_rfl)
    · have h1p : noneB c a = false := h1
      refine g_adv 4 [.o 120 17] 1 [(2, vi at_), (3, vi many), (5, pt b2 0), (9, .func (.func 186) #[] #[pt b1 0]), (34, vb false), (37, vb true), (38, pt b2 4)] (by kernel_rfl) ?_
      refine g_op (by kernel_rfl) (ot_load 1 b2 4 (.slice la l.length lc) (by kernel_rfl) (by kernel_rfl) ?_)
      refine g_adv 6 [] 1 [(2, vi at_), (3, vi many), (5, pt b2 0), (9, .func (.func 186) #[] #[pt b1 0]), (21, vb (decide ((l.length : Int) > 0)))] (by kernel_rfl) ?_
      refine g_cond (decide ((l.length : Int) > 0)) (by kernel_rfl) (fun h2 => ?_) (fun h2 => ?_)
      · have h2p : (l.length : Int) > 0 := of_decide_eq_true h2
        refine g_adv 5 [] 3 [(8, vb false)] (by kernel_rfl) ?_
        refine g_post () [2, 2] [vb false] (.tmp (by kernel_rfl) .nil) (by ((clear rl hl; simp_all [resV, mayI]) <;> (intros; first | omega | (exfalso; omega)))) (by kernel_rfl)
      · have h2p : ¬ ((l.length : Int) > 0) := of_decide_eq_false h2
        refine g_adv 3 [.o 486 1, .c 487] 1 [(2, vi at_), (3, vi many), (5, pt b2 0), (9, .func (.func 186) #[] #[pt b1 0]), (45, pt b2 0)] (by kernel_rfl) ?_
        refine g_op (by kernel_rfl) (ot_load 1 b2 0 (vi 2) (by kernel_rfl) (by kernel_rfl) ?_)
        refine g_adv 3 [.o 486 5] 1 [(2, vi at_), (3, vi many), (5, pt b2 0), (9, .func (.func 186) #[] #[pt b1 0]), (48, vb false), (49, pt b2 0)] (by kernel_rfl) ?_
        refine g_op (by kernel_rfl) (ot_load 1 b2 0 (vi 2) (by kernel_rfl) (by kernel_rfl) ?_)
        refine g_adv 8 [.o 1948 1, .c 1949] 2 [(5, pt b2 0), (9, .func (.func 186) #[] #[pt b1 0]), (53, pt b2 3)] (by kernel_rfl) ?_
        refine g_op (by kernel_rfl) (ot_load 1 b2 3 (vi d) (by kernel_rfl) (by kernel_rfl) ?_)
        refine g_adv 2 [.o 1948 4] 1 [(5, pt b2 0), (9, .func (.func 186) #[] #[pt b1 0]), (56, vb (d == (-1)))] (by kernel_rfl) ?_
        refine g_bool 56 (d == (-1)) (by kernel_rfl) (fun h3 => ?_) (fun h3 => ?_)
        · have h3p : d = (-1) := eq_of_beq h3
          refine g_adv 9 [] 4 [(8, vb true)] (by kernel_rfl) ?_
          refine g_post () [2, 2] [vb true] (.tmp (by kernel_rfl) .nil) (by ((clear rl hl; simp_all [resV, mayI]) <;> (intros; first | omega | (exfalso; omega)))) (by kernel_rfl)
        · have h3p : d ≠ (-1) := ne_of_beq_false h3
          refine g_adv 2 [.o 1948 6] 1 [(56, vb false), (57, .func (.func 186) #[] #[pt b1 0]), (58, pt b2 3)] (by kernel_rfl) ?_
          refine g_op (by kernel_rfl) (ot_load 1 b2 3 (vi d) (by kernel_rfl) (by kernel_rfl) ?_)
          refine g_op (by kernel_rfl) (ot_call [0] (c_prog_may_1 b1 c d) (by kernel_rfl) (by kernel_rfl) ?_)
          intro _
          refine g_adv 5 [] 4 [(8, vb (!(noneB c d)))] (by kernel_rfl) ?_
          refine g_post () [2, 2] [vb (!(noneB c d))] (.tmp (by kernel_rfl) .nil) (by ((clear rl hl; simp_all [resV, mayI]) <;> (intros; first | omega | (exfalso; omega)))) (by kernel_rfl)
  · refine g_adv 2 [.o 2 0, .c 3] 1 [(0, .agg #[vi c.regions, vi c.objects, vi c.stripes, vi c.width, vi c.threads, vi c.slots, vi c.regs, vi c.locks, vi c.undo, vi c.escalate, vi c.tickets, vi c.policy]), (1, .agg #[vi 3, vi a, vi b, vi d, .slice la l.length lc]), (2, vi at_), (3, vi many)] (by kernel_rfl) ?_
    refine g_op (by kernel_rfl) (ot_new #[vi c.regions, vi c.objects, vi c.stripes, vi c.width, vi c.threads, vi c.slots, vi c.regs, vi c.locks, vi c.undo, vi c.escalate, vi c.tickets, vi c.policy] 25 (by kernel_rfl) ?_)
    intro b1
    refine g_op (by kernel_rfl) (ot_new #[vi 3, vi a, vi b, vi d, .slice la l.length lc] 38 (by kernel_rfl) ?_)
    intro b2
    refine g_adv 10 [.o 14 1, .c 15] 2 [(2, vi at_), (3, vi many), (5, pt b2 0), (9, .func (.func 186) #[] #[pt b1 0]), (15, pt b2 0)] (by kernel_rfl) ?_
    refine g_op (by kernel_rfl) (ot_load 0 b2 0 (vi 3) (by kernel_rfl) (by kernel_rfl) ?_)
    refine g_op (by kernel_rfl) (ot_call [] (c_word_3) (by kernel_rfl) (by kernel_rfl) ?_)
    intro _
    refine g_adv 20 [.o 120 8, .c 121, .b 0, .c 31] 2 [(2, vi at_), (3, vi many), (5, pt b2 0), (9, .func (.func 186) #[] #[pt b1 0]), (12, vb false), (24, vb false), (27, vb true), (28, .func (.func 186) #[] #[pt b1 0]), (29, pt b2 1)] (by kernel_rfl) ?_
    refine g_op (by kernel_rfl) (ot_load 0 b2 1 (vi a) (by kernel_rfl) (by kernel_rfl) ?_)
    refine g_op (by kernel_rfl) (ot_call [1] (c_prog_may_1 b1 c a) (by kernel_rfl) (by kernel_rfl) ?_)
    intro _
    refine g_adv 3 [.o 120 13] 1 [(2, vi at_), (3, vi many), (5, pt b2 0), (9, .func (.func 186) #[] #[pt b1 0]), (12, vb false), (34, vb (noneB c a))] (by kernel_rfl) ?_
    refine g_bool 34 (noneB c a) (by kernel_rfl) (fun h1 => ?_) (fun h1 => ?_)
    · have h1p : noneB c a = true := h1
      refine g_adv 17 [] 4 [(8, vb false)] (by kernel_rfl) ?_
      refine g_post () [2, 2] [vb false] (.tmp (by kernel_rfl) .nil) (by ((clear rl hl; simp_all [resV, mayI]) <;> (intros; first | omega | (exfalso; omega)))) (by kernel_rfl)
    · have h1p : noneB c a = false := h1
      refine g_adv 4 [.o 120 17] 1 [(2, vi at_), (3, vi many), (5, pt b2 0), (9, .func (.func 186) #[] #[pt b1 0]), (34, vb false), (37, vb true), (38, pt b2 4)] (by kernel_rfl) ?_
      refine g_op (by kernel_rfl) (ot_load 1 b2 4 (.slice la l.length lc) (by kernel_rfl) (by kernel_rfl) ?_)
      refine g_adv 6 [] 1 [(2, vi at_), (3, vi many), (5, pt b2 0), (9, .func (.func 186) #[] #[pt b1 0]), (21, vb (decide ((l.length : Int) > 0)))] (by kernel_rfl) ?_
      refine g_cond (decide ((l.length : Int) > 0)) (by kernel_rfl) (fun h2 => ?_) (fun h2 => ?_)
      · have h2p : (l.length : Int) > 0 := of_decide_eq_true h2
        refine g_adv 5 [] 3 [(8, vb false)] (by kernel_rfl) ?_
        refine g_post () [2, 2] [vb false] (.tmp (by kernel_rfl) .nil) (by ((clear rl hl; simp_all [resV, mayI]) <;> (intros; first | omega | (exfalso; omega)))) (by kernel_rfl)
      · have h2p : ¬ ((l.length : Int) > 0) := of_decide_eq_false h2
        refine g_adv 3 [.o 486 1, .c 487] 1 [(2, vi at_), (3, vi many), (5, pt b2 0), (9, .func (.func 186) #[] #[pt b1 0]), (45, pt b2 0)] (by kernel_rfl) ?_
        refine g_op (by kernel_rfl) (ot_load 1 b2 0 (vi 3) (by kernel_rfl) (by kernel_rfl) ?_)
        refine g_adv 3 [.o 486 5] 1 [(2, vi at_), (3, vi many), (5, pt b2 0), (9, .func (.func 186) #[] #[pt b1 0]), (48, vb false), (49, pt b2 0)] (by kernel_rfl) ?_
        refine g_op (by kernel_rfl) (ot_load 1 b2 0 (vi 3) (by kernel_rfl) (by kernel_rfl) ?_)
        refine g_adv 8 [.o 1950 1, .c 1951] 2 [(2, vi at_), (3, vi many), (5, pt b2 0), (9, .func (.func 186) #[] #[pt b1 0]), (64, pt b2 0)] (by kernel_rfl) ?_
        refine g_op (by kernel_rfl) (ot_load 1 b2 0 (vi 3) (by kernel_rfl) (by kernel_rfl) ?_)
        refine g_adv 7 [.o 7806 1, .c 7807] 2 [(2, vi at_), (3, vi many), (5, pt b2 0), (90, pt b2 0)] (by kernel_rfl) ?_
        refine g_op (by kernel_rfl) (ot_load 1 b2 0 (vi 3) (by kernel_rfl) (by kernel_rfl) ?_)
        refine g_adv 11 [] 4 [(8, vb true)] (by kernel_rfl) ?_
        refine g_post () [2, 2] [vb true] (.tmp (by kernel_rfl) .nil) (by ((clear rl hl; simp_all [resV, mayI]) <;> (intros; first | omega | (exfalso; omega)))) (by kernel_rfl)
  · refine g_adv 2 [.o 2 0, .c 3] 1 [(0, .agg #[vi c.regions, vi c.objects, vi c.stripes, vi c.width, vi c.threads, vi c.slots, vi c.regs, vi c.locks, vi c.undo, vi c.escalate, vi c.tickets, vi c.policy]), (1, .agg #[vi 4, vi a, vi b, vi d, .slice la l.length lc]), (2, vi at_), (3, vi many)] (by kernel_rfl) ?_
    refine g_op (by kernel_rfl) (ot_new #[vi c.regions, vi c.objects, vi c.stripes, vi c.width, vi c.threads, vi c.slots, vi c.regs, vi c.locks, vi c.undo, vi c.escalate, vi c.tickets, vi c.policy] 25 (by kernel_rfl) ?_)
    intro b1
    refine g_op (by kernel_rfl) (ot_new #[vi 4, vi a, vi b, vi d, .slice la l.length lc] 38 (by kernel_rfl) ?_)
    intro b2
    refine g_adv 10 [.o 14 1, .c 15] 2 [(2, vi at_), (3, vi many), (5, pt b2 0), (9, .func (.func 186) #[] #[pt b1 0]), (15, pt b2 0)] (by kernel_rfl) ?_
    refine g_op (by kernel_rfl) (ot_load 0 b2 0 (vi 4) (by kernel_rfl) (by kernel_rfl) ?_)
    refine g_op (by kernel_rfl) (ot_call [] (c_word_4) (by kernel_rfl) (by kernel_rfl) ?_)
    intro _
    refine g_adv 20 [.o 120 8, .c 121, .b 0, .c 31] 2 [(2, vi at_), (3, vi many), (5, pt b2 0), (9, .func (.func 186) #[] #[pt b1 0]), (12, vb true), (24, vb false), (27, vb true), (28, .func (.func 186) #[] #[pt b1 0]), (29, pt b2 1)] (by kernel_rfl) ?_
    refine g_op (by kernel_rfl) (ot_load 0 b2 1 (vi a) (by kernel_rfl) (by kernel_rfl) ?_)
    refine g_op (by kernel_rfl) (ot_call [1] (c_prog_may_1 b1 c a) (by kernel_rfl) (by kernel_rfl) ?_)
    intro _
    refine g_adv 3 [.o 120 13] 1 [(2, vi at_), (3, vi many), (5, pt b2 0), (9, .func (.func 186) #[] #[pt b1 0]), (12, vb true), (34, vb (noneB c a))] (by kernel_rfl) ?_
    refine g_bool 34 (noneB c a) (by kernel_rfl) (fun h1 => ?_) (fun h1 => ?_)
    · have h1p : noneB c a = true := h1
      refine g_adv 17 [] 4 [(8, vb false)] (by kernel_rfl) ?_
      refine g_post () [2, 2] [vb false] (.tmp (by kernel_rfl) .nil) (by ((clear rl hl; simp_all [resV, mayI]) <;> (intros; first | omega | (exfalso; omega)))) (by kernel_rfl)
    · have h1p : noneB c a = false := h1
      refine g_adv 15 [.o 486 1, .c 487] 2 [(2, vi at_), (3, vi many), (5, pt b2 0), (9, .func (.func 186) #[] #[pt b1 0]), (45, pt b2 0)] (by kernel_rfl) ?_
      refine g_op (by kernel_rfl) (ot_load 1 b2 0 (vi 4) (by kernel_rfl) (by kernel_rfl) ?_)
      refine g_adv 3 [.o 486 5] 1 [(2, vi at_), (3, vi many), (5, pt b2 0), (9, .func (.func 186) #[] #[pt b1 0]), (48, vb false), (49, pt b2 0)] (by kernel_rfl) ?_
      refine g_op (by kernel_rfl) (ot_load 1 b2 0 (vi 4) (by kernel_rfl) (by kernel_rfl) ?_)
      refine g_adv 8 [.o 1950 1, .c 1951] 2 [(2, vi at_), (3, vi many), (5, pt b2 0), (9, .func (.func 186) #[] #[pt b1 0]), (64, pt b2 0)] (by kernel_rfl) ?_
      refine g_op (by kernel_rfl) (ot_load 1 b2 0 (vi 4) (by kernel_rfl) (by kernel_rfl) ?_)
      refine g_adv 7 [.o 7804 1, .c 7805] 2 [(5, pt b2 0), (9, .func (.func 186) #[] #[pt b1 0]), (67, pt b2 2)] (by kernel_rfl) ?_
      refine g_op (by kernel_rfl) (ot_load 1 b2 2 (vi b) (by kernel_rfl) (by kernel_rfl) ?_)
      refine g_op (by kernel_rfl) (ot_call [] (c_calc_Known b) (by kernel_rfl) (by kernel_rfl) ?_)
      intro _
      refine g_adv 1 [.o 7804 4] 1 [(5, pt b2 0), (9, .func (.func 186) #[] #[pt b1 0]), (70, vb (ckind b))] (by kernel_rfl) ?_
      refine g_bool 70 (ckind b) (by kernel_rfl) (fun h2 => ?_) (fun h2 => ?_)
      · have h2p : ckind b = true := h2
        refine g_adv 1 [.o 7804 5] 1 [(5, pt b2 0), (9, .func (.func 186) #[] #[pt b1 0]), (70, vb true), (71, pt b2 4)] (by kernel_rfl) ?_
        refine g_op (by kernel_rfl) (ot_load 1 b2 4 (.slice la l.length lc) (by kernel_rfl) (by kernel_rfl) ?_)
        refine g_adv 4 [.o 7804 10] 1 [(5, pt b2 0), (9, .func (.func 186) #[] #[pt b1 0]), (76, vb (decide ((l.length : Int) > 0)))] (by kernel_rfl) ?_
        refine g_bool 76 (decide ((l.length : Int) > 0)) (by kernel_rfl) (fun h3 => ?_) (fun h3 => ?_)
        · have h3p : (l.length : Int) > 0 := of_decide_eq_true h3
          refine g_adv 1 [.o 7804 11] 1 [(5, pt b2 0), (9, .func (.func 186) #[] #[pt b1 0]), (76, vb true), (77, pt b2 4)] (by kernel_rfl) ?_
          refine g_op (by kernel_rfl) (ot_load 1 b2 4 (.slice la l.length lc) (by kernel_rfl) (by kernel_rfl) ?_)
          refine g_adv 4 [.o 7804 16] 1 [(5, pt b2 0), (9, .func (.func 186) #[] #[pt b1 0]), (82, vb (decide ((l.length : Int) ≤ 8)))] (by kernel_rfl) ?_
          refine g_bool 82 (decide ((l.length : Int) ≤ 8)) (by kernel_rfl) (fun h4 => ?_) (fun h4 => ?_)
          · have h4p : (l.length : Int) ≤ 8 := of_decide_eq_true h4
            refine g_adv 1 [.o 7804 17] 1 [(9, .func (.func 186) #[] #[pt b1 0]), (82, vb true), (83, pt b2 4)] (by kernel_rfl) ?_
            refine g_op (by kernel_rfl) (ot_load 1 b2 4 (.slice la l.length lc) (by kernel_rfl) (by kernel_rfl) ?_)
            refine g_adv 1 [.o 7804 19] 1 [(82, vb true), (84, .slice la l.length lc), (85, .func (.func 186) #[] #[pt b1 0])] (by kernel_rfl) ?_
            refine g_op (by kernel_rfl) (ot_call [2, 0] (c_contains_none b1 c la lc l X rl (by first | omega | assumption | (simp; done) | (simp; omega))) (by kernel_rfl) (by kernel_rfl) ?_)
            intro _
            refine g_adv 5 [] 4 [(8, vb (!(l.any (noneB c))))] (by kernel_rfl) ?_
            refine g_post () [0, 2] [vb (!(l.any (noneB c)))] (.tmp (by kernel_rfl) .nil) (by ((clear rl hl; simp_all [resV, mayI]) <;> (intros; first | omega | (exfalso; omega)))) (by kernel_rfl)
          · have h4p : ¬ ((l.length : Int) ≤ 8) := of_decide_eq_false h4
            refine g_adv 9 [] 4 [(8, vb false)] (by kernel_rfl) ?_
            refine g_post () [2, 2] [vb false] (.tmp (by kernel_rfl) .nil) (by ((clear rl hl; simp_all [resV, mayI]) <;> (intros; first | omega | (exfalso; omega)))) (by kernel_rfl)
        · have h3p : ¬ ((l.length : Int) > 0) := of_decide_eq_false h3
          refine g_adv 15 [] 4 [(8, vb false)] (by kernel_rfl) ?_
          refine g_post () [2, 2] [vb false] (.tmp (by kernel_rfl) .nil) (by ((clear rl hl; simp_all [resV, mayI]) <;> (intros; first | omega | (exfalso; omega)))) (by kernel_rfl)
      · have h2p : ckind b = false := h2
        refine g_adv 21 [] 4 [(8, vb false)] (by kernel_rfl) ?_
        refine g_post () [2, 2] [vb false] (.tmp (by kernel_rfl) .nil) (by ((clear rl hl; simp_all [resV, mayI]) <;> (intros; first | omega | (exfalso; omega)))) (by kernel_rfl)
  · refine g_adv 2 [.o 2 0, .c 3] 1 [(0, .agg #[vi c.regions, vi c.objects, vi c.stripes, vi c.width, vi c.threads, vi c.slots, vi c.regs, vi c.locks, vi c.undo, vi c.escalate, vi c.tickets, vi c.policy]), (1, .agg #[vi 5, vi a, vi b, vi d, .slice la l.length lc]), (2, vi at_), (3, vi many)] (by kernel_rfl) ?_
    refine g_op (by kernel_rfl) (ot_new #[vi c.regions, vi c.objects, vi c.stripes, vi c.width, vi c.threads, vi c.slots, vi c.regs, vi c.locks, vi c.undo, vi c.escalate, vi c.tickets, vi c.policy] 25 (by kernel_rfl) ?_)
    intro b1
    refine g_op (by kernel_rfl) (ot_new #[vi 5, vi a, vi b, vi d, .slice la l.length lc] 38 (by kernel_rfl) ?_)
    intro b2
    refine g_adv 10 [.o 14 1, .c 15] 2 [(2, vi at_), (3, vi many), (5, pt b2 0), (9, .func (.func 186) #[] #[pt b1 0]), (15, pt b2 0)] (by kernel_rfl) ?_
    refine g_op (by kernel_rfl) (ot_load 0 b2 0 (vi 5) (by kernel_rfl) (by kernel_rfl) ?_)
    refine g_op (by kernel_rfl) (ot_call [] (c_word_5) (by kernel_rfl) (by kernel_rfl) ?_)
    intro _
    refine g_adv 20 [.o 120 8, .c 121, .b 0, .c 31] 2 [(2, vi at_), (3, vi many), (5, pt b2 0), (9, .func (.func 186) #[] #[pt b1 0]), (12, vb false), (24, vb false), (27, vb true), (28, .func (.func 186) #[] #[pt b1 0]), (29, pt b2 1)] (by kernel_rfl) ?_
    refine g_op (by kernel_rfl) (ot_load 0 b2 1 (vi a) (by kernel_rfl) (by kernel_rfl) ?_)
    refine g_op (by kernel_rfl) (ot_call [1] (c_prog_may_1 b1 c a) (by kernel_rfl) (by kernel_rfl) ?_)
    intro _
    refine g_adv 3 [.o 120 13] 1 [(2, vi at_), (3, vi many), (5, pt b2 0), (9, .func (.func 186) #[] #[pt b1 0]), (12, vb false), (34, vb (noneB c a))] (by kernel_rfl) ?_
    refine g_bool 34 (noneB c a) (by kernel_rfl) (fun h1 => ?_) (fun h1 => ?_)
    · have h1p : noneB c a = true := h1
      refine g_adv 17 [] 4 [(8, vb false)] (by kernel_rfl) ?_
      refine g_post () [2, 2] [vb false] (.tmp (by kernel_rfl) .nil) (by ((clear rl hl; simp_all [resV, mayI]) <;> (intros; first | omega | (exfalso; omega)))) (by kernel_rfl)
    · have h1p : noneB c a = false := h1
      refine g_adv 4 [.o 120 17] 1 [(2, vi at_), (3, vi many), (5, pt b2 0), (9, .func (.func 186) #[] #[pt b1 0]), (34, vb false), (37, vb true), (38, pt b2 4)] (by kernel_rfl) ?_
      refine g_op (by kernel_rfl) (ot_load 1 b2 4 (.slice la l.length lc) (by kernel_rfl) (by kernel_rfl) ?_)
      refine g_adv 6 [] 1 [(2, vi at_), (3, vi many), (5, pt b2 0), (9, .func (.func 186) #[] #[pt b1 0]), (21, vb (decide ((l.length : Int) > 0)))] (by kernel_rfl) ?_
      refine g_cond (decide ((l.length : Int) > 0)) (by kernel_rfl) (fun h2 => ?_) (fun h2 => ?_)
      · have h2p : (l.length : Int) > 0 := of_decide_eq_true h2
        refine g_adv 5 [] 3 [(8, vb false)] (by kernel_rfl) ?_
        refine g_post () [2, 2] [vb false] (.tmp (by kernel_rfl) .nil) (by ((clear rl hl; simp_all [resV, mayI]) <;> (intros; first | omega | (exfalso; omega)))) (by kernel_rfl)
      · have h2p : ¬ ((l.length : Int) > 0) := of_decide_eq_false h2
        refine g_adv 3 [.o 486 1, .c 487] 1 [(2, vi at_), (3, vi many), (5, pt b2 0), (9, .func (.func 186) #[] #[pt b1 0]), (45, pt b2 0)] (by kernel_rfl) ?_
        refine g_op (by kernel_rfl) (ot_load 1 b2 0 (vi 5) (by kernel_rfl) (by kernel_rfl) ?_)
        refine g_adv 3 [.o 486 5] 1 [(2, vi at_), (3, vi many), (5, pt b2 0), (9, .func (.func 186) #[] #[pt b1 0]), (48, vb false), (49, pt b2 0)] (by kernel_rfl) ?_
        refine g_op (by kernel_rfl) (ot_load 1 b2 0 (vi 5) (by kernel_rfl) (by kernel_rfl) ?_)
        refine g_adv 8 [.o 1950 1, .c 1951] 2 [(2, vi at_), (3, vi many), (5, pt b2 0), (9, .func (.func 186) #[] #[pt b1 0]), (64, pt b2 0)] (by kernel_rfl) ?_
        refine g_op (by kernel_rfl) (ot_load 1 b2 0 (vi 5) (by kernel_rfl) (by kernel_rfl) ?_)
        refine g_adv 7 [.o 7806 1, .c 7807] 2 [(2, vi at_), (3, vi many), (5, pt b2 0), (90, pt b2 0)] (by kernel_rfl) ?_
        refine g_op (by kernel_rfl) (ot_load 1 b2 0 (vi 5) (by kernel_rfl) (by kernel_rfl) ?_)
        refine g_adv 7 [.o 31228 1, .c 31229] 2 [(2, vi at_), (3, vi many), (5, pt b2 0), (93, pt b2 2)] (by kernel_rfl) ?_
        refine g_op (by kernel_rfl) (ot_load 1 b2 2 (vi b) (by kernel_rfl) (by kernel_rfl) ?_)
        refine g_adv 3 [.o 31228 5] 1 [(3, vi many), (5, pt b2 0), (97, vb (decide (b > at_)))] (by kernel_rfl) ?_
        refine g_bool 97 (decide (b > at_)) (by kernel_rfl) (fun h3 => ?_) (fun h3 => ?_)
        · have h3p : b > at_ := of_decide_eq_true h3
          refine g_adv 1 [.o 31228 6] 1 [(3, vi many), (97, vb true), (98, pt b2 2)] (by kernel_rfl) ?_
          refine g_op (by kernel_rfl) (ot_load 1 b2 2 (vi b) (by kernel_rfl) (by kernel_rfl) ?_)
          refine g_adv 6 [] 4 [(8, vb (decide (b ≤ many)))] (by kernel_rfl) ?_
          refine g_post () [2, 2] [vb (decide (b ≤ many))] (.tmp (by kernel_rfl) .nil) (by ((clear rl hl; simp_all [resV, mayI]) <;> (intros; first | omega | (exfalso; omega)))) (by kernel_rfl)
        · have h3p : ¬ (b > at_) := of_decide_eq_false h3
          refine g_adv 8 [] 4 [(8, vb false)] (by kernel_rfl) ?_
          refine g_post () [2, 2] [vb false] (.tmp (by kernel_rfl) .nil) (by ((clear rl hl; simp_all [resV, mayI]) <;> (intros; first | omega | (exfalso; omega)))) (by kernel_rfl)
  · refine g_adv 2 [.o 2 0, .c 3] 1 [(0, .agg #[vi c.regions, vi c.objects, vi c.stripes, vi c.width, vi c.threads, vi c.slots, vi c.regs, vi c.locks, vi c.undo, vi c.escalate, vi c.tickets, vi c.policy]), (1, .agg #[vi 6, vi a, vi b, vi d, .slice la l.length lc]), (2, vi at_), (3, vi many)] (by kernel_rfl) ?_
    refine g_op (by kernel_rfl) (ot_new #[vi c.regions, vi c.objects, vi c.stripes, vi c.width, vi c.threads, vi c.slots, vi c.regs, vi c.locks, vi c.undo, vi c.escalate, vi c.tickets, vi c.policy] 25 (by kernel_rfl) ?_)
    intro b1
    refine g_op (by kernel_rfl) (ot_new #[vi 6, vi a, vi b, vi d, .slice la l.length lc] 38 (by kernel_rfl) ?_)
    intro b2
    refine g_adv 10 [.o 14 1, .c 15] 2 [(2, vi at_), (3, vi many), (5, pt b2 0), (9, .func (.func 186) #[] #[pt b1 0]), (15, pt b2 0)] (by kernel_rfl) ?_
    refine g_op (by kernel_rfl) (ot_load 0 b2 0 (vi 6) (by kernel_rfl) (by kernel_rfl) ?_)
    refine g_op (by kernel_rfl) (ot_call [] (c_word_6) (by kernel_rfl) (by kernel_rfl) ?_)
    intro _
    refine g_adv 29 [.o 120 17, .c 121, .b 0, .c 31] 2 [(2, vi at_), (3, vi many), (5, pt b2 0), (9, .func (.func 186) #[] #[pt b1 0]), (34, vb false), (37, vb true), (38, pt b2 4)] (by kernel_rfl) ?_
    refine g_op (by kernel_rfl) (ot_load 0 b2 4 (.slice la l.length lc) (by kernel_rfl) (by kernel_rfl) ?_)
    refine g_adv 6 [] 1 [(2, vi at_), (3, vi many), (5, pt b2 0), (9, .func (.func 186) #[] #[pt b1 0]), (21, vb (decide ((l.length : Int) > 0)))] (by kernel_rfl) ?_
    refine g_cond (decide ((l.length : Int) > 0)) (by kernel_rfl) (fun h1 => ?_) (fun h1 => ?_)
    · have h1p : (l.length : Int) > 0 := of_decide_eq_true h1
      refine g_adv 5 [] 3 [(8, vb false)] (by kernel_rfl) ?_
      refine g_post () [2, 2] [vb false] (.tmp (by kernel_rfl) .nil) (by ((clear rl hl; simp_all [resV, mayI]) <;> (intros; first | omega | (exfalso; omega)))) (by kernel_rfl)
    · have h1p : ¬ ((l.length : Int) > 0) := of_decide_eq_false h1
      refine g_adv 3 [.o 486 1, .c 487] 1 [(2, vi at_), (3, vi many), (5, pt b2 0), (9, .func (.func 186) #[] #[pt b1 0]), (45, pt b2 0)] (by kernel_rfl) ?_
      refine g_op (by kernel_rfl) (ot_load 0 b2 0 (vi 6) (by kernel_rfl) (by kernel_rfl) ?_)
      refine g_adv 3 [.o 486 5] 1 [(2, vi at_), (3, vi many), (5, pt b2 0), (9, .func (.func 186) #[] #[pt b1 0]), (48, vb false), (49, pt b2 0)] (by kernel_rfl) ?_
      refine g_op (by kernel_rfl) (ot_load 0 b2 0 (vi 6) (by kernel_rfl) (by kernel_rfl) ?_)
      refine g_adv 8 [.o 1950 1, .c 1951] 2 [(2, vi at_), (3, vi many), (5, pt b2 0), (9, .func (.func 186) #[] #[pt b1 0]), (64, pt b2 0)] (by kernel_rfl) ?_
      refine g_op (by kernel_rfl) (ot_load 0 b2 0 (vi 6) (by kernel_rfl) (by kernel_rfl) ?_)
      refine g_adv 7 [.o 7806 1, .c 7807] 2 [(2, vi at_), (3, vi many), (5, pt b2 0), (90, pt b2 0)] (by kernel_rfl) ?_
      refine g_op (by kernel_rfl) (ot_load 0 b2 0 (vi 6) (by kernel_rfl) (by kernel_rfl) ?_)
      refine g_adv 11 [] 4 [(8, vb true)] (by kernel_rfl) ?_
      refine g_post () [2, 2] [vb true] (.tmp (by kernel_rfl) .nil) (by ((clear rl hl; simp_all [resV, mayI]) <;> (intros; first | omega | (exfalso; omega)))) (by kernel_rfl)
  · refine g_adv 2 [.o 2 0, .c 3] 1 [(0, .agg #[vi c.regions, vi c.objects, vi c.stripes, vi c.width, vi c.threads, vi c.slots, vi c.regs, vi c.locks, vi c.undo, vi c.escalate, vi c.tickets, vi c.policy]), (1, .agg #[vi 7, vi a, vi b, vi d, .slice la l.length lc]), (2, vi at_), (3, vi many)] (by kernel_rfl) ?_
    refine g_op (by kernel_rfl) (ot_new #[vi c.regions, vi c.objects, vi c.stripes, vi c.width, vi c.threads, vi c.slots, vi c.regs, vi c.locks, vi c.undo, vi c.escalate, vi c.tickets, vi c.policy] 25 (by kernel_rfl) ?_)
    intro b1
    refine g_op (by kernel_rfl) (ot_new #[vi 7, vi a, vi b, vi d, .slice la l.length lc] 38 (by kernel_rfl) ?_)
    intro b2
    refine g_adv 10 [.o 14 1, .c 15] 2 [(2, vi at_), (3, vi many), (5, pt b2 0), (9, .func (.func 186) #[] #[pt b1 0]), (15, pt b2 0)] (by kernel_rfl) ?_
    refine g_op (by kernel_rfl) (ot_load 0 b2 0 (vi 7) (by kernel_rfl) (by kernel_rfl) ?_)
    refine g_op (by kernel_rfl) (ot_call [] (c_word_7) (by kernel_rfl) (by kernel_rfl) ?_)
    intro _
    refine g_adv 29 [.o 120 17, .c 121, .b 0, .c 31] 2 [(2, vi at_), (3, vi many), (5, pt b2 0), (9, .func (.func 186) #[] #[pt b1 0]), (34, vb false), (37, vb true), (38, pt b2 4)] (by kernel_rfl) ?_
    refine g_op (by kernel_rfl) (ot_load 0 b2 4 (.slice la l.length lc) (by kernel_rfl) (by kernel_rfl) ?_)
    refine g_adv 6 [] 1 [(2, vi at_), (3, vi many), (5, pt b2 0), (9, .func (.func 186) #[] #[pt b1 0]), (21, vb (decide ((l.length : Int) > 0)))] (by kernel_rfl) ?_
    refine g_cond (decide ((l.length : Int) > 0)) (by kernel_rfl) (fun h1 => ?_) (fun h1 => ?_)
    · have h1p : (l.length : Int) > 0 := of_decide_eq_true h1
      refine g_adv 5 [] 3 [(8, vb false)] (by kernel_rfl) ?_
      refine g_post () [2, 2] [vb false] (.tmp (by kernel_rfl) .nil) (by ((clear rl hl; simp_all [resV, mayI]) <;> (intros; first | omega | (exfalso; omega)))) (by kernel_rfl)
    · have h1p : ¬ ((l.length : Int) > 0) := of_decide_eq_false h1
      refine g_adv 3 [.o 486 1, .c 487] 1 [(2, vi at_), (3, vi many), (5, pt b2 0), (9, .func (.func 186) #[] #[pt b1 0]), (45, pt b2 0)] (by kernel_rfl) ?_
      refine g_op (by kernel_rfl) (ot_load 0 b2 0 (vi 7) (by kernel_rfl) (by kernel_rfl) ?_)
      refine g_adv 3 [.o 486 5] 1 [(2, vi at_), (3, vi many), (5, pt b2 0), (9, .func (.func 186) #[] #[pt b1 0]), (48, vb false), (49, pt b2 0)] (by kernel_rfl) ?_
      refine g_op (by kernel_rfl) (ot_load 0 b2 0 (vi 7) (by kernel_rfl) (by kernel_rfl) ?_)
      refine g_adv 8 [.o 1950 1, .c 1951] 2 [(2, vi at_), (3, vi many), (5, pt b2 0), (9, .func (.func 186) #[] #[pt b1 0]), (64, pt b2 0)] (by kernel_rfl) ?_
      refine g_op (by kernel_rfl) (ot_load 0 b2 0 (vi 7) (by kernel_rfl) (by kernel_rfl) ?_)
      refine g_adv 7 [.o 7806 1, .c 7807] 2 [(2, vi at_), (3, vi many), (5, pt b2 0), (90, pt b2 0)] (by kernel_rfl) ?_
      refine g_op (by kernel_rfl) (ot_load 0 b2 0 (vi 7) (by kernel_rfl) (by kernel_rfl) ?_)
      refine g_adv 11 [] 4 [(8, vb true)] (by kernel_rfl) ?_
      refine g_post () [2, 2] [vb true] (.tmp (by kernel_rfl) .nil) (by ((clear rl hl; simp_all [resV, mayI]) <;> (intros; first | omega | (exfalso; omega)))) (by kernel_rfl)
  · refine g_adv 2 [.o 2 0, .c 3] 1 [(0, .agg #[vi c.regions, vi c.objects, vi c.stripes, vi c.width, vi c.threads, vi c.slots, vi c.regs, vi c.locks, vi c.undo, vi c.escalate, vi c.tickets, vi c.policy]), (1, .agg #[vi k, vi a, vi b, vi d, .slice la l.length lc]), (2, vi at_), (3, vi many)] (by kernel_rfl) ?_
    refine g_op (by kernel_rfl) (ot_new #[vi c.regions, vi c.objects, vi c.stripes, vi c.width, vi c.threads, vi c.slots, vi c.regs, vi c.locks, vi c.undo, vi c.escalate, vi c.tickets, vi c.policy] 25 (by kernel_rfl) ?_)
    intro b1
    refine g_op (by kernel_rfl) (ot_new #[vi k, vi a, vi b, vi d, .slice la l.length lc] 38 (by kernel_rfl) ?_)
    intro b2
    refine g_adv 10 [.o 14 1, .c 15] 2 [(2, vi at_), (3, vi many), (5, pt b2 0), (9, .func (.func 186) #[] #[pt b1 0]), (15, pt b2 0)] (by kernel_rfl) ?_
    refine g_op (by kernel_rfl) (ot_load 0 b2 0 (vi k) (by kernel_rfl) (by kernel_rfl) ?_)
    refine g_op (by kernel_rfl) (ot_call [] (c_word_no k (by first | omega | assumption | (simp; done) | (simp; omega)) (by first | omega | assumption | (simp; done) | (simp; omega)) (by first | omega | assumption | (simp; done) | (simp; omega)) (by first | omega | assumption | (simp; done) | (simp; omega)) (by first | omega | assumption | (simp; done) | (simp; omega)) (by first | omega | assumption | (simp; done) | (simp; omega)) (by first | omega | assumption | (simp; done) | (simp; omega))) (by kernel_rfl) (by kernel_rfl) ?_)
    intro _
    refine g_adv 42 [] 2 [(8, vb false)] (by kernel_rfl) ?_
    refine g_post () [2, 2] [vb false] (.tmp (by kernel_rfl) .nil) (by ((clear rl hl; simp_all [resV, mayI]) <;> (intros; first | omega | (exfalso; omega)))) (by kernel_rfl)

theorem c_prog_Check (c : Conf) (a : Option Addr) (cp : Nat) (p : List Instr) (X : SP) (hp : RProg X ⟨a, cp, p⟩) : Ct Tryz.prog 92 [.agg #[vi c.regions, vi c.objects, vi c.stripes, vi c.width, vi c.threads, vi c.slots, vi c.regs, vi c.locks, vi c.undo, vi c.escalate, vi c.tickets, vi c.policy], .slice a p.length cp] [.sp X] (fun _ : Unit => vi (checkP c p)) (fun _ => [.sp X]) := by
  refine ct_intro Tryz.f92 30 Tryz.func92 rfl rfl rfl (fun E R => ?_)
  have hp2 := hp
  have hh1 := hp2
  obtain ⟨hcap1, hsm1, raws1, he1, hr1, hall1⟩ := hh1
  try dsimp only at hcap1 hsm1
  have he1 : p = raws1.map InR.ins := he1
  have hlen1 : p.length = raws1.length := by rw [he1, List.length_map]
  refine g_adv 2 [.o 2 0, .c 3] 1 [(0, .agg #[vi c.regions, vi c.objects, vi c.stripes, vi c.width, vi c.threads, vi c.slots, vi c.regs, vi c.locks, vi c.undo, vi c.escalate, vi c.tickets, vi c.policy]), (1, .slice a p.length cp)] (by kernel_rfl) ?_
  refine g_op (by kernel_rfl) (ot_new #[vi c.regions, vi c.objects, vi c.stripes, vi c.width, vi c.threads, vi c.slots, vi c.regs, vi c.locks, vi c.undo, vi c.escalate, vi c.tickets, vi c.policy] 25 (by kernel_rfl) ?_)
  intro b1
  refine g_adv 5 [.o 12 0, .c 13, .c 7] 2 [(1, .slice a p.length cp), (2, pt b1 0)] (by kernel_rfl) ?_
  refine g_op (by kernel_rfl) (ot_loadA 0 b1 0 [vi c.regions, vi c.objects, vi c.stripes, vi c.width, vi c.threads, vi c.slots, vi c.regs, vi c.locks, vi c.undo, vi c.escalate, vi c.tickets, vi c.policy] (by kernel_rfl) (by kernel_rfl) ?_)
  refine g_op (by kernel_rfl) (ot_call [] (c_shape_Check c) (by kernel_rfl) (by kernel_rfl) ?_)
  intro _
  refine g_adv 2 [.o 12 4] 1 [(1, .slice a p.length cp), (2, pt b1 0), (10, vb (check c != 0))] (by kernel_rfl) ?_
  refine g_bool 10 (check c != 0) (by kernel_rfl) (fun h1 => ?_) (fun h1 => ?_)
  · have h1p : check c ≠ 0 := bne_iff_ne.1 h1
    refine g_adv 11 [] 3 [(4, vi 2)] (by kernel_rfl) ?_
    refine g_post () [1, 1] [vi 2] (.tmp (by kernel_rfl) .nil) (by rw [checkP_form h1p]; rfl) (by kernel_rfl)
  · have h1p : check c = 0 := (by simpa using h1)
    refine g_adv 5 [] 1 [(1, .slice a p.length cp), (2, pt b1 0), (14, vb (decide ((p.length : Int) > 60)))] (by kernel_rfl) ?_
    refine g_cond (decide ((p.length : Int) > 60)) (by kernel_rfl) (fun h2 => ?_) (fun h2 => ?_)
    · have h2p : (p.length : Int) > 60 := of_decide_eq_true h2
      refine g_adv 5 [] 2 [(4, vi 2)] (by kernel_rfl) ?_
      refine g_post () [1, 1] [vi 2] (.tmp (by kernel_rfl) .nil) (by rw [checkP_long h2p]; rfl) (by kernel_rfl)
    · have h2p : ¬ ((p.length : Int) > 60) := of_decide_eq_false h2
      refine g_adv 9 [.c 58, .b 0, .c 15] 2 [(1, .slice a p.length cp), (2, pt b1 0), (15, .slice a p.length cp), (16, vi (p.length : Int)), (17, vi 0)] (by kernel_rfl) ?_
      refine g_loop' (fun (x : { x : Nat // match x with | i => i ≤ p.length ∧ mayAll c p.length 0 (p.take i) = true }) => match x.1 with | i => ([(1, .slice a p.length cp), (2, pt b1 0), (15, .slice a p.length cp), (16, vi (p.length : Int)), (17, vi (i : Int))], [.obj b1 (.cells #[vi c.regions, vi c.objects, vi c.stripes, vi c.width, vi c.threads, vi c.slots, vi c.regs, vi c.locks, vi c.undo, vi c.escalate, vi c.tickets, vi c.policy] 25 (0, 0)), .sp X, .sp R])) (fun (x : { x : Nat // match x with | i => i ≤ p.length ∧ mayAll c p.length 0 (p.take i) = true }) => match x.1 with | i => p.length - i) ⟨0, by exact ⟨by omega, rfl⟩⟩ [0, 0, 0] (by kernel_rfl) (by kernel_rfl) (by kernel_rfl) ?_
      rintro ⟨i, hi1⟩
      have hi1 : i ≤ p.length ∧ mayAll c p.length 0 (p.take i) = true := hi1
      obtain ⟨hi1_0, hi1_1⟩ := hi1
      refine g_adv 5 [.c 466, .c 467] 1 [(1, .slice a p.length cp), (2, pt b1 0), (15, .slice a p.length cp), (16, vi (p.length : Int)), (17, vi (i : Int)), (18, vb (decide ((i : Int) < (p.length : Int))))] (by kernel_rfl) ?_
      refine g_cond (decide ((i : Int) < (p.length : Int))) (by kernel_rfl) (fun h3 => ?_) (fun h3 => ?_)
      · have h3p : (i : Int) < (p.length : Int) := of_decide_eq_true h3
        refine g_adv 6 [.o 3736 1, .c 3737, .b 1, .c 935] 2 [(1, .slice a p.length cp), (2, pt b1 0), (15, .slice a p.length cp), (16, vi (p.length : Int)), (17, vi (i : Int)), (19, vi (i : Int))] (by kernel_rfl) ?_
        refine g_some 1 hr1 (by kernel_rfl) (by omega) ?_
        rintro b2 o1 rfl
        refine g_op (by kernel_rfl) (ot_val (pt b2 (o1 + i * 5)) (run_ix b2 o1 p.length cp (i : Int) 5 (by kernel_rfl) (by omega) (by omega)) ?_)
        obtain ⟨⟨xi1, xa1, xc1⟩, hx1⟩ : ∃ x, raws1[i]? = some x := ⟨_, List.getElem?_eq_getElem (by omega)⟩
        obtain ⟨hc1, hs1, hr2⟩ := hall1 (InR.mk xi1 xa1 xc1) (List.mem_of_getElem? hx1)
        refine g_op (by kernel_rfl) (ot_loadSA 1 b2 o1 i (o1 + i * 5) hr1 (by kernel_rfl) (by kernel_rfl) (by rfl) hx1 ?_)
        refine g_op (by kernel_rfl) (ot_new #[vi 0, vi 0, vi 0, vi 0, .slice none 0 0] 38 (by kernel_rfl) ?_)
        intro b3
        refine g_adv 1 [.o 3736 5] 1 [(1, .slice (some ⟨b2, o1, none⟩) p.length cp), (2, pt b1 0), (5, vi (i : Int)), (6, pt b3 0), (15, .slice (some ⟨b2, o1, none⟩) p.length cp), (16, vi (p.length : Int)), (17, vi (i : Int)), (21, .agg #[vi xi1.kind, vi xi1.a, vi xi1.b, vi xi1.c, .slice xa1 xi1.l.length xc1])] (by kernel_rfl) ?_
        refine g_op (by kernel_rfl) (ot_store 0 b3 0 [vi xi1.kind, vi xi1.a, vi xi1.b, vi xi1.c, .slice xa1 xi1.l.length xc1] (by kernel_rfl) (by kernel_rfl) ?_)
        refine g_adv 3 [.o 7474 0, .c 7475] 2 [(1, .slice (some ⟨b2, o1, none⟩) p.length cp), (2, pt b1 0), (5, vi (i : Int)), (6, pt b3 0), (15, .slice (some ⟨b2, o1, none⟩) p.length cp), (16, vi (p.length : Int)), (17, vi (i : Int))] (by kernel_rfl) ?_
        refine g_op (by kernel_rfl) (ot_loadA 1 b1 0 [vi c.regions, vi c.objects, vi c.stripes, vi c.width, vi c.threads, vi c.slots, vi c.regs, vi c.locks, vi c.undo, vi c.escalate, vi c.tickets, vi c.policy] (by kernel_rfl) (by kernel_rfl) ?_)
        refine g_op (by kernel_rfl) (ot_loadA 0 b3 0 [vi xi1.kind, vi xi1.a, vi xi1.b, vi xi1.c, .slice xa1 xi1.l.length xc1] (by kernel_rfl) (by kernel_rfl) ?_)
        refine g_adv 3 [.o 7474 5] 1 [(1, .slice (some ⟨b2, o1, none⟩) p.length cp), (2, pt b1 0), (15, .slice (some ⟨b2, o1, none⟩) p.length cp), (16, vi (p.length : Int)), (17, vi (i : Int)), (22, .agg #[vi c.regions, vi c.objects, vi c.stripes, vi c.width, vi c.threads, vi c.slots, vi c.regs, vi c.locks, vi c.undo, vi c.escalate, vi c.tickets, vi c.policy]), (23, .agg #[vi xi1.kind, vi xi1.a, vi xi1.b, vi xi1.c, .slice xa1 xi1.l.length xc1]), (24, vi (i : Int)), (26, vi (p.length : Int))] (by kernel_rfl) ?_
        refine g_op (by kernel_rfl) (ot_call [2] (c_prog_may c xi1.kind xi1.a xi1.b xi1.c xa1 xc1 xi1.l (i : Int) (p.length : Int) X hr2 (by first | omega | assumption | (simp; done) | (simp; omega))) (by kernel_rfl) (by kernel_rfl) ?_)
        intro _
        refine g_adv 2 [] 1 [(1, .slice (some ⟨b2, o1, none⟩) p.length cp), (2, pt b1 0), (15, .slice (some ⟨b2, o1, none⟩) p.length cp), (16, vi (p.length : Int)), (17, vi (i : Int)), (28, vb (!(mayI c xi1.kind xi1.a xi1.b xi1.c xi1.l (i : Int) (p.length : Int))))] (by kernel_rfl) ?_
        refine g_cond (!(mayI c xi1.kind xi1.a xi1.b xi1.c xi1.l (i : Int) (p.length : Int))) (by kernel_rfl) (fun h4 => ?_) (fun h4 => ?_)
        · have h4p : mayI c xi1.kind xi1.a xi1.b xi1.c xi1.l (i : Int) (p.length : Int) = false := (show (mayI c xi1.kind xi1.a xi1.b xi1.c xi1.l (i : Int) (p.length : Int)) = false by simpa using h4)
          refine g_adv 5 [] 6 [(4, vi 2)] (by kernel_rfl) ?_
          refine g_post () [0, 2] [vi 2] (.tmp (by kernel_rfl) .nil) (by rw [checkP_bad (he1 ▸ map_at hx1) (by simpa [may] using h4)]; rfl) (by kernel_rfl)
        · have h4p : mayI c xi1.kind xi1.a xi1.b xi1.c xi1.l (i : Int) (p.length : Int) = true := (show (mayI c xi1.kind xi1.a xi1.b xi1.c xi1.l (i : Int) (p.length : Int)) = true by simpa using h4)
          refine g_adv 4 [.o 935 1] 3 [(1, .slice (some ⟨b2, o1, none⟩) p.length cp), (2, pt b1 0), (15, .slice (some ⟨b2, o1, none⟩) p.length cp), (16, vi (p.length : Int)), (29, vi (wI ((i : Int) + 1)))] (by kernel_rfl) ?_
          refine g_val 29 (vi (wI ((i : Int) + 1))) (vi ((i + 1 : Nat) : Int)) (wI_eq (by omega) (by omega) (by omega)) (by kernel_rfl) ?_
          refine g_adv 2 [] 1 [(1, .slice (some ⟨b2, o1, none⟩) p.length cp), (2, pt b1 0), (15, .slice (some ⟨b2, o1, none⟩) p.length cp), (16, vi (p.length : Int)), (17, vi ((i + 1 : Nat) : Int))] (by kernel_rfl) ?_
          refine g_round ⟨i + 1, by exact ⟨by omega, mayAll_step hi1_1 (he1 ▸ map_at hx1) (by simpa [may] using h4)⟩⟩ [2, 0, 1] (by first | omega | (simp; done) | (simp; omega)) (by kernel_rfl) (by kernel_rfl)
      · have h3p : ¬ ((i : Int) < (p.length : Int)) := of_decide_eq_false h3
        obtain rfl : i = p.length := by omega
        rw [List.take_length] at hi1_1
        refine g_adv 6 [] 5 [(4, vi 0)] (by kernel_rfl) ?_
        refine g_post () [1, 1] [vi 0] (.tmp (by kernel_rfl) .nil) (by rw [checkP_ok h1p h2p hi1_1]; rfl) (by kernel_rfl)

end Go.Proofs
