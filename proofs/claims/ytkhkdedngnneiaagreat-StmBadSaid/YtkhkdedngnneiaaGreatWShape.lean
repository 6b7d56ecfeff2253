/- The walks of the layer shape: printed by a program of this repo (wip/gen). -/
import Derived.Test.YtkhkdedngnneiaaGreatWCalc
import Derived.Test.YtkhkdedngnneiaaGreatMShape
import Derived.Test.YtkhkdedngnneiaaGreatProg
namespace Go.Proofs
open Go Go.Sl Go.Lk
set_option maxRecDepth 20000
set_option linter.unusedVariables false

theorem c_shape_Check (c : Conf) : Ct Tryz.prog 44 [.agg #[vi c.regions, vi c.objects, vi c.stripes, vi c.width, vi c.threads, vi c.slots, vi c.regs, vi c.locks, vi c.undo, vi c.escalate, vi c.tickets, vi c.policy]] [] (fun _ : Unit => vi (check c)) (fun _ => []) := by
  refine ct_intro Tryz.f44 58 Tryz.func44 rfl rfl rfl (fun E R => ?_)
  refine g_adv 2 [.o 2 0, .c 3] 1 [(0, .agg #[vi c.regions, vi c.objects, vi c.stripes, vi c.width, vi c.threads, vi c.slots, vi c.regs, vi c.locks, vi c.undo, vi c.escalate, vi c.tickets, vi c.policy])] (by kernel_rfl) ?_
  refine g_op (by kernel_rfl) (ot_new #[vi c.regions, vi c.objects, vi c.stripes, vi c.width, vi c.threads, vi c.slots, vi c.regs, vi c.locks, vi c.undo, vi c.escalate, vi c.tickets, vi c.policy] 25 (by kernel_rfl) ?_)
  intro b1
  refine g_adv 6 [.o 12 1, .c 13, .c 7] 2 [(1, pt b1 0), (5, pt b1 0)] (by kernel_rfl) ?_
  refine g_op (by kernel_rfl) (ot_load 0 b1 0 (vi c.regions) (by kernel_rfl) (by kernel_rfl) ?_)
  refine g_adv 2 [.o 12 4] 1 [(1, pt b1 0), (7, .agg #[vi c.regions, vi 1, vi 8]), (8, pt b1 1)] (by kernel_rfl) ?_
  refine g_op (by kernel_rfl) (ot_load 0 b1 1 (vi c.objects) (by kernel_rfl) (by kernel_rfl) ?_)
  refine g_adv 2 [.o 12 7] 1 [(1, pt b1 0), (7, .agg #[vi c.regions, vi 1, vi 8]), (10, .agg #[vi c.objects, vi 1, vi 8]), (11, pt b1 2)] (by kernel_rfl) ?_
  refine g_op (by kernel_rfl) (ot_load 0 b1 2 (vi c.stripes) (by kernel_rfl) (by kernel_rfl) ?_)
  refine g_adv 2 [.o 12 10] 1 [(1, pt b1 0), (7, .agg #[vi c.regions, vi 1, vi 8]), (10, .agg #[vi c.objects, vi 1, vi 8]), (13, .agg #[vi c.stripes, vi 1, vi 8]), (14, pt b1 3)] (by kernel_rfl) ?_
  refine g_op (by kernel_rfl) (ot_load 0 b1 3 (vi c.width) (by kernel_rfl) (by kernel_rfl) ?_)
  refine g_adv 2 [.o 12 13] 1 [(1, pt b1 0), (7, .agg #[vi c.regions, vi 1, vi 8]), (10, .agg #[vi c.objects, vi 1, vi 8]), (13, .agg #[vi c.stripes, vi 1, vi 8]), (16, .agg #[vi c.width, vi 1, vi 8]), (17, pt b1 4)] (by kernel_rfl) ?_
  refine g_op (by kernel_rfl) (ot_load 0 b1 4 (vi c.threads) (by kernel_rfl) (by kernel_rfl) ?_)
  refine g_adv 2 [.o 12 16] 1 [(1, pt b1 0), (7, .agg #[vi c.regions, vi 1, vi 8]), (10, .agg #[vi c.objects, vi 1, vi 8]), (13, .agg #[vi c.stripes, vi 1, vi 8]), (16, .agg #[vi c.width, vi 1, vi 8]), (19, .agg #[vi c.threads, vi 1, vi 64]), (20, pt b1 5)] (by kernel_rfl) ?_
  refine g_op (by kernel_rfl) (ot_load 0 b1 5 (vi c.slots) (by kernel_rfl) (by kernel_rfl) ?_)
  refine g_adv 2 [.o 12 19] 1 [(1, pt b1 0), (7, .agg #[vi c.regions, vi 1, vi 8]), (10, .agg #[vi c.objects, vi 1, vi 8]), (13, .agg #[vi c.stripes, vi 1, vi 8]), (16, .agg #[vi c.width, vi 1, vi 8]), (19, .agg #[vi c.threads, vi 1, vi 64]), (22, .agg #[vi c.slots, vi 0, vi 48]), (23, pt b1 6)] (by kernel_rfl) ?_
  refine g_op (by kernel_rfl) (ot_load 0 b1 6 (vi c.regs) (by kernel_rfl) (by kernel_rfl) ?_)
  refine g_adv 2 [.o 12 22] 1 [(1, pt b1 0), (7, .agg #[vi c.regions, vi 1, vi 8]), (10, .agg #[vi c.objects, vi 1, vi 8]), (13, .agg #[vi c.stripes, vi 1, vi 8]), (16, .agg #[vi c.width, vi 1, vi 8]), (19, .agg #[vi c.threads, vi 1, vi 64]), (22, .agg #[vi c.slots, vi 0, vi 48]), (25, .agg #[vi c.regs, vi 1, vi 8]), (26, pt b1 7)] (by kernel_rfl) ?_
  refine g_op (by kernel_rfl) (ot_load 0 b1 7 (vi c.locks) (by kernel_rfl) (by kernel_rfl) ?_)
  refine g_adv 2 [.o 12 25] 1 [(1, pt b1 0), (7, .agg #[vi c.regions, vi 1, vi 8]), (10, .agg #[vi c.objects, vi 1, vi 8]), (13, .agg #[vi c.stripes, vi 1, vi 8]), (16, .agg #[vi c.width, vi 1, vi 8]), (19, .agg #[vi c.threads, vi 1, vi 64]), (22, .agg #[vi c.slots, vi 0, vi 48]), (25, .agg #[vi c.regs, vi 1, vi 8]), (28, .agg #[vi c.locks, vi 1, vi 4096]), (29, pt b1 8)] (by kernel_rfl) ?_
  refine g_op (by kernel_rfl) (ot_load 0 b1 8 (vi c.undo) (by kernel_rfl) (by kernel_rfl) ?_)
  refine g_adv 2 [.o 12 28] 1 [(1, pt b1 0), (7, .agg #[vi c.regions, vi 1, vi 8]), (10, .agg #[vi c.objects, vi 1, vi 8]), (13, .agg #[vi c.stripes, vi 1, vi 8]), (16, .agg #[vi c.width, vi 1, vi 8]), (19, .agg #[vi c.threads, vi 1, vi 64]), (22, .agg #[vi c.slots, vi 0, vi 48]), (25, .agg #[vi c.regs, vi 1, vi 8]), (28, .agg #[vi c.locks, vi 1, vi 4096]), (31, .agg #[vi c.undo, vi 1, vi 1000]), (32, pt b1 9)] (by kernel_rfl) ?_
  refine g_op (by kernel_rfl) (ot_load 0 b1 9 (vi c.escalate) (by kernel_rfl) (by kernel_rfl) ?_)
  refine g_adv 2 [.o 12 31] 1 [(1, pt b1 0), (7, .agg #[vi c.regions, vi 1, vi 8]), (10, .agg #[vi c.objects, vi 1, vi 8]), (13, .agg #[vi c.stripes, vi 1, vi 8]), (16, .agg #[vi c.width, vi 1, vi 8]), (19, .agg #[vi c.threads, vi 1, vi 64]), (22, .agg #[vi c.slots, vi 0, vi 48]), (25, .agg #[vi c.regs, vi 1, vi 8]), (28, .agg #[vi c.locks, vi 1, vi 4096]), (31, .agg #[vi c.undo, vi 1, vi 1000]), (34, .agg #[vi c.escalate, vi 0, vi 64]), (35, pt b1 10)] (by kernel_rfl) ?_
  refine g_op (by kernel_rfl) (ot_load 0 b1 10 (vi c.tickets) (by kernel_rfl) (by kernel_rfl) ?_)
  refine g_adv 2 [.o 12 34] 1 [(7, .agg #[vi c.regions, vi 1, vi 8]), (10, .agg #[vi c.objects, vi 1, vi 8]), (13, .agg #[vi c.stripes, vi 1, vi 8]), (16, .agg #[vi c.width, vi 1, vi 8]), (19, .agg #[vi c.threads, vi 1, vi 64]), (22, .agg #[vi c.slots, vi 0, vi 48]), (25, .agg #[vi c.regs, vi 1, vi 8]), (28, .agg #[vi c.locks, vi 1, vi 4096]), (31, .agg #[vi c.undo, vi 1, vi 1000]), (34, .agg #[vi c.escalate, vi 0, vi 64]), (37, .agg #[vi c.tickets, vi 1, vi 10000]), (38, pt b1 11)] (by kernel_rfl) ?_
  refine g_op (by kernel_rfl) (ot_load 0 b1 11 (vi c.policy) (by kernel_rfl) (by kernel_rfl) ?_)
  refine g_adv 5 [.c 26, .b 0] 2 [(41, .agg #[vi c.regions, vi 1, vi 8, vi c.objects, vi 1, vi 8, vi c.stripes, vi 1, vi 8, vi c.width, vi 1, vi 8, vi c.threads, vi 1, vi 64, vi c.slots, vi 0, vi 48, vi c.regs, vi 1, vi 8, vi c.locks, vi 1, vi 4096, vi c.undo, vi 1, vi 1000, vi c.escalate, vi 0, vi 64, vi c.tickets, vi 1, vi 10000, vi c.policy, vi 0, vi 2]), (42, vi 0)] (by kernel_rfl) ?_
  refine g_loop' (fun (x : { x : Nat // match x with | i => i ≤ 12 ∧ (c.bounds.take i).all inB = true }) => match x.1 with | i => ([(41, .agg #[vi c.regions, vi 1, vi 8, vi c.objects, vi 1, vi 8, vi c.stripes, vi 1, vi 8, vi c.width, vi 1, vi 8, vi c.threads, vi 1, vi 64, vi c.slots, vi 0, vi 48, vi c.regs, vi 1, vi 8, vi c.locks, vi 1, vi 4096, vi c.undo, vi 1, vi 1000, vi c.escalate, vi 0, vi 64, vi c.tickets, vi 1, vi 10000, vi c.policy, vi 0, vi 2]), (42, vi (i : Int))], [.obj b1 (.cells #[vi c.regions, vi c.objects, vi c.stripes, vi c.width, vi c.threads, vi c.slots, vi c.regs, vi c.locks, vi c.undo, vi c.escalate, vi c.tickets, vi c.policy] 25 (0, 0)), .sp R])) (fun (x : { x : Nat // match x with | i => i ≤ 12 ∧ (c.bounds.take i).all inB = true }) => match x.1 with | i => 12 - i) ⟨0, by exact ⟨by omega, rfl⟩⟩ [0, 0] (by kernel_rfl) (by kernel_rfl) (by kernel_rfl) ?_
  rintro ⟨i, hi1⟩
  have hi1 : i ≤ 12 ∧ (c.bounds.take i).all inB = true := hi1
  obtain ⟨hi1_0, hi1_1⟩ := hi1
  obtain rfl | rfl | rfl | rfl | rfl | rfl | rfl | rfl | rfl | rfl | rfl | rfl | rfl : i = 0 ∨ i = 1 ∨ i = 2 ∨ i = 3 ∨ i = 4 ∨ i = 5 ∨ i = 6 ∨ i = 7 ∨ i = 8 ∨ i = 9 ∨ i = 10 ∨ i = 11 ∨ i = 12 := by omega
  · refine g_adv 12 [.o 1688 1, .c 1689, .b 1, .c 423] 1 [(41, .agg #[vi c.regions, vi 1, vi 8, vi c.objects, vi 1, vi 8, vi c.stripes, vi 1, vi 8, vi c.width, vi 1, vi 8, vi c.threads, vi 1, vi 64, vi c.slots, vi 0, vi 48, vi c.regs, vi 1, vi 8, vi c.locks, vi 1, vi 4096, vi c.undo, vi 1, vi 1000, vi c.escalate, vi 0, vi 64, vi c.tickets, vi 1, vi 10000, vi c.policy, vi 0, vi 2]), (42, vi 0), (44, .agg #[vi c.regions, vi 1, vi 8])] (by kernel_rfl) ?_
    refine g_op (by kernel_rfl) (ot_new #[vi 0, vi 0, vi 0] 152 (by kernel_rfl) ?_)
    intro b2
    refine g_op (by kernel_rfl) (ot_store 0 b2 0 [vi c.regions, vi 1, vi 8] (by kernel_rfl) (by kernel_rfl) ?_)
    refine g_adv 4 [.o 3378 1, .c 3379] 2 [(4, pt b2 0), (41, .agg #[vi c.regions, vi 1, vi 8, vi c.objects, vi 1, vi 8, vi c.stripes, vi 1, vi 8, vi c.width, vi 1, vi 8, vi c.threads, vi 1, vi 64, vi c.slots, vi 0, vi 48, vi c.regs, vi 1, vi 8, vi c.locks, vi 1, vi 4096, vi c.undo, vi 1, vi 1000, vi c.escalate, vi 0, vi 64, vi c.tickets, vi 1, vi 10000, vi c.policy, vi 0, vi 2]), (42, vi 0), (45, pt b2 0)] (by kernel_rfl) ?_
    refine g_op (by kernel_rfl) (ot_load 0 b2 0 (vi c.regions) (by kernel_rfl) (by kernel_rfl) ?_)
    refine g_adv 1 [.o 3378 3] 1 [(4, pt b2 0), (41, .agg #[vi c.regions, vi 1, vi 8, vi c.objects, vi 1, vi 8, vi c.stripes, vi 1, vi 8, vi c.width, vi 1, vi 8, vi c.threads, vi 1, vi 64, vi c.slots, vi 0, vi 48, vi c.regs, vi 1, vi 8, vi c.locks, vi 1, vi 4096, vi c.undo, vi 1, vi 1000, vi c.escalate, vi 0, vi 64, vi c.tickets, vi 1, vi 10000, vi c.policy, vi 0, vi 2]), (42, vi 0), (46, vi c.regions), (47, pt b2 1)] (by kernel_rfl) ?_
    refine g_op (by kernel_rfl) (ot_load 0 b2 1 (vi 1) (by kernel_rfl) (by kernel_rfl) ?_)
    refine g_adv 2 [.o 3378 6] 1 [(4, pt b2 0), (41, .agg #[vi c.regions, vi 1, vi 8, vi c.objects, vi 1, vi 8, vi c.stripes, vi 1, vi 8, vi c.width, vi 1, vi 8, vi c.threads, vi 1, vi 64, vi c.slots, vi 0, vi 48, vi c.regs, vi 1, vi 8, vi c.locks, vi 1, vi 4096, vi c.undo, vi 1, vi 1000, vi c.escalate, vi 0, vi 64, vi c.tickets, vi 1, vi 10000, vi c.policy, vi 0, vi 2]), (42, vi 0), (50, vb (decide (c.regions < 1)))] (by kernel_rfl) ?_
    refine g_bool 50 (decide (c.regions < 1)) (by kernel_rfl) (fun h1 => ?_) (fun h1 => ?_)
    · have h1p : c.regions < 1 := of_decide_eq_true h1
      refine g_adv 13 [] 7 [(2, vi 1)] (by kernel_rfl) ?_
      refine g_post () [2] [vi 1] (.tmp (by kernel_rfl) .nil) (by first | (simp [resV, check, Conf.ok, Conf.bounds, inB] at hi1_1 ⊢; omega) | (simp [Conf.bounds] at hi1_1; simp [resV, check, Conf.ok, Conf.bounds, hi1_1])) (by kernel_rfl)
    · have h1p : ¬ (c.regions < 1) := of_decide_eq_false h1
      refine g_adv 1 [.o 3378 7] 1 [(4, pt b2 0), (41, .agg #[vi c.regions, vi 1, vi 8, vi c.objects, vi 1, vi 8, vi c.stripes, vi 1, vi 8, vi c.width, vi 1, vi 8, vi c.threads, vi 1, vi 64, vi c.slots, vi 0, vi 48, vi c.regs, vi 1, vi 8, vi c.locks, vi 1, vi 4096, vi c.undo, vi 1, vi 1000, vi c.escalate, vi 0, vi 64, vi c.tickets, vi 1, vi 10000, vi c.policy, vi 0, vi 2]), (42, vi 0), (50, vb false), (51, pt b2 0)] (by kernel_rfl) ?_
      refine g_op (by kernel_rfl) (ot_load 0 b2 0 (vi c.regions) (by kernel_rfl) (by kernel_rfl) ?_)
      refine g_adv 1 [.o 3378 9] 1 [(41, .agg #[vi c.regions, vi 1, vi 8, vi c.objects, vi 1, vi 8, vi c.stripes, vi 1, vi 8, vi c.width, vi 1, vi 8, vi c.threads, vi 1, vi 64, vi c.slots, vi 0, vi 48, vi c.regs, vi 1, vi 8, vi c.locks, vi 1, vi 4096, vi c.undo, vi 1, vi 1000, vi c.escalate, vi 0, vi 64, vi c.tickets, vi 1, vi 10000, vi c.policy, vi 0, vi 2]), (42, vi 0), (50, vb false), (52, vi c.regions), (53, pt b2 2)] (by kernel_rfl) ?_
      refine g_op (by kernel_rfl) (ot_load 0 b2 2 (vi 8) (by kernel_rfl) (by kernel_rfl) ?_)
      refine g_adv 3 [] 1 [(41, .agg #[vi c.regions, vi 1, vi 8, vi c.objects, vi 1, vi 8, vi c.stripes, vi 1, vi 8, vi c.width, vi 1, vi 8, vi c.threads, vi 1, vi 64, vi c.slots, vi 0, vi 48, vi c.regs, vi 1, vi 8, vi c.locks, vi 1, vi 4096, vi c.undo, vi 1, vi 1000, vi c.escalate, vi 0, vi 64, vi c.tickets, vi 1, vi 10000, vi c.policy, vi 0, vi 2]), (42, vi 0), (56, vb (decide (c.regions > 8)))] (by kernel_rfl) ?_
      refine g_cond (decide (c.regions > 8)) (by kernel_rfl) (fun h2 => ?_) (fun h2 => ?_)
      · have h2p : c.regions > 8 := of_decide_eq_true h2
        refine g_adv 5 [] 6 [(2, vi 1)] (by kernel_rfl) ?_
        refine g_post () [2] [vi 1] (.tmp (by kernel_rfl) .nil) (by first | (simp [resV, check, Conf.ok, Conf.bounds, inB] at hi1_1 ⊢; omega) | (simp [Conf.bounds] at hi1_1; simp [resV, check, Conf.ok, Conf.bounds, hi1_1])) (by kernel_rfl)
      · have h2p : ¬ (c.regions > 8) := of_decide_eq_false h2
        refine g_adv 6 [] 3 [(41, .agg #[vi c.regions, vi 1, vi 8, vi c.objects, vi 1, vi 8, vi c.stripes, vi 1, vi 8, vi c.width, vi 1, vi 8, vi c.threads, vi 1, vi 64, vi c.slots, vi 0, vi 48, vi c.regs, vi 1, vi 8, vi c.locks, vi 1, vi 4096, vi c.undo, vi 1, vi 1000, vi c.escalate, vi 0, vi 64, vi c.tickets, vi 1, vi 10000, vi c.policy, vi 0, vi 2]), (42, vi 1)] (by kernel_rfl) ?_
        refine g_round ⟨1, by exact ⟨by omega, take_all_step hi1_1 rfl (by simp [inB]; omega)⟩⟩ [1, 1] (by first | omega | (simp; done) | (simp; omega)) (by kernel_rfl) (by kernel_rfl)
  · refine g_adv 12 [.o 1688 1, .c 1689, .b 1, .c 423] 1 [(41, .agg #[vi c.regions, vi 1, vi 8, vi c.objects, vi 1, vi 8, vi c.stripes, vi 1, vi 8, vi c.width, vi 1, vi 8, vi c.threads, vi 1, vi 64, vi c.slots, vi 0, vi 48, vi c.regs, vi 1, vi 8, vi c.locks, vi 1, vi 4096, vi c.undo, vi 1, vi 1000, vi c.escalate, vi 0, vi 64, vi c.tickets, vi 1, vi 10000, vi c.policy, vi 0, vi 2]), (42, vi 1), (44, .agg #[vi c.objects, vi 1, vi 8])] (by kernel_rfl) ?_
    refine g_op (by kernel_rfl) (ot_new #[vi 0, vi 0, vi 0] 152 (by kernel_rfl) ?_)
    intro b2
    refine g_op (by kernel_rfl) (ot_store 0 b2 0 [vi c.objects, vi 1, vi 8] (by kernel_rfl) (by kernel_rfl) ?_)
    refine g_adv 4 [.o 3378 1, .c 3379] 2 [(4, pt b2 0), (41, .agg #[vi c.regions, vi 1, vi 8, vi c.objects, vi 1, vi 8, vi c.stripes, vi 1, vi 8, vi c.width, vi 1, vi 8, vi c.threads, vi 1, vi 64, vi c.slots, vi 0, vi 48, vi c.regs, vi 1, vi 8, vi c.locks, vi 1, vi 4096, vi c.undo, vi 1, vi 1000, vi c.escalate, vi 0, vi 64, vi c.tickets, vi 1, vi 10000, vi c.policy, vi 0, vi 2]), (42, vi 1), (45, pt b2 0)] (by kernel_rfl) ?_
    refine g_op (by kernel_rfl) (ot_load 0 b2 0 (vi c.objects) (by kernel_rfl) (by kernel_rfl) ?_)
    refine g_adv 1 [.o 3378 3] 1 [(4, pt b2 0), (41, .agg #[vi c.regions, vi 1, vi 8, vi c.objects, vi 1, vi 8, vi c.stripes, vi 1, vi 8, vi c.width, vi 1, vi 8, vi c.threads, vi 1, vi 64, vi c.slots, vi 0, vi 48, vi c.regs, vi 1, vi 8, vi c.locks, vi 1, vi 4096, vi c.undo, vi 1, vi 1000, vi c.escalate, vi 0, vi 64, vi c.tickets, vi 1, vi 10000, vi c.policy, vi 0, vi 2]), (42, vi 1), (46, vi c.objects), (47, pt b2 1)] (by kernel_rfl) ?_
    refine g_op (by kernel_rfl) (ot_load 0 b2 1 (vi 1) (by kernel_rfl) (by kernel_rfl) ?_)
    refine g_adv 2 [.o 3378 6] 1 [(4, pt b2 0), (41, .agg #[vi c.regions, vi 1, vi 8, vi c.objects, vi 1, vi 8, vi c.stripes, vi 1, vi 8, vi c.width, vi 1, vi 8, vi c.threads, vi 1, vi 64, vi c.slots, vi 0, vi 48, vi c.regs, vi 1, vi 8, vi c.locks, vi 1, vi 4096, vi c.undo, vi 1, vi 1000, vi c.escalate, vi 0, vi 64, vi c.tickets, vi 1, vi 10000, vi c.policy, vi 0, vi 2]), (42, vi 1), (50, vb (decide (c.objects < 1)))] (by kernel_rfl) ?_
    refine g_bool 50 (decide (c.objects < 1)) (by kernel_rfl) (fun h1 => ?_) (fun h1 => ?_)
    · have h1p : c.objects < 1 := of_decide_eq_true h1
      refine g_adv 13 [] 7 [(2, vi 1)] (by kernel_rfl) ?_
      refine g_post () [2] [vi 1] (.tmp (by kernel_rfl) .nil) (by first | (simp [resV, check, Conf.ok, Conf.bounds, inB] at hi1_1 ⊢; omega) | (simp [Conf.bounds] at hi1_1; simp [resV, check, Conf.ok, Conf.bounds, hi1_1])) (by kernel_rfl)
    · have h1p : ¬ (c.objects < 1) := of_decide_eq_false h1
      refine g_adv 1 [.o 3378 7] 1 [(4, pt b2 0), (41, .agg #[vi c.regions, vi 1, vi 8, vi c.objects, vi 1, vi 8, vi c.stripes, vi 1, vi 8, vi c.width, vi 1, vi 8, vi c.threads, vi 1, vi 64, vi c.slots, vi 0, vi 48, vi c.regs, vi 1, vi 8, vi c.locks, vi 1, vi 4096, vi c.undo, vi 1, vi 1000, vi c.escalate, vi 0, vi 64, vi c.tickets, vi 1, vi 10000, vi c.policy, vi 0, vi 2]), (42, vi 1), (50, vb false), (51, pt b2 0)] (by kernel_rfl) ?_
      refine g_op (by kernel_rfl) (ot_load 0 b2 0 (vi c.objects) (by kernel_rfl) (by kernel_rfl) ?_)
      refine g_adv 1 [.o 3378 9] 1 [(41, .agg #[vi c.regions, vi 1, vi 8, vi c.objects, vi 1, vi 8, vi c.stripes, vi 1, vi 8, vi c.width, vi 1, vi 8, vi c.threads, vi 1, vi 64, vi c.slots, vi 0, vi 48, vi c.regs, vi 1, vi 8, vi c.locks, vi 1, vi 4096, vi c.undo, vi 1, vi 1000, vi c.escalate, vi 0, vi 64, vi c.tickets, vi 1, vi 10000, vi c.policy, vi 0, vi 2]), (42, vi 1), (50, vb false), (52, vi c.objects), (53, pt b2 2)] (by kernel_rfl) ?_
      refine g_op (by kernel_rfl) (ot_load 0 b2 2 (vi 8) (by kernel_rfl) (by kernel_rfl) ?_)
      refine g_adv 3 [] 1 [(41, .agg #[vi c.regions, vi 1, vi 8, vi c.objects, vi 1, vi 8, vi c.stripes, vi 1, vi 8, vi c.width, vi 1, vi 8, vi c.threads, vi 1, vi 64, vi c.slots, vi 0, vi 48, vi c.regs, vi 1, vi 8, vi c.locks, vi 1, vi 4096, vi c.undo, vi 1, vi 1000, vi c.escalate, vi 0, vi 64, vi c.tickets, vi 1, vi 10000, vi c.policy, vi 0, vi 2]), (42, vi 1), (56, vb (decide (c.objects > 8)))] (by kernel_rfl) ?_
      refine g_cond (decide (c.objects > 8)) (by kernel_rfl) (fun h2 => ?_) (fun h2 => ?_)
      · have h2p : c.objects > 8 := of_decide_eq_true h2
        refine g_adv 5 [] 6 [(2, vi 1)] (by kernel_rfl) ?_
        refine g_post () [2] [vi 1] (.tmp (by kernel_rfl) .nil) (by first | (simp [resV, check, Conf.ok, Conf.bounds, inB] at hi1_1 ⊢; omega) | (simp [Conf.bounds] at hi1_1; simp [resV, check, Conf.ok, Conf.bounds, hi1_1])) (by kernel_rfl)
      · have h2p : ¬ (c.objects > 8) := of_decide_eq_false h2
        refine g_adv 6 [] 3 [(41, .agg #[vi c.regions, vi 1, vi 8, vi c.objects, vi 1, vi 8, vi c.stripes, vi 1, vi 8, vi c.width, vi 1, vi 8, vi c.threads, vi 1, vi 64, vi c.slots, vi 0, vi 48, vi c.regs, vi 1, vi 8, vi c.locks, vi 1, vi 4096, vi c.undo, vi 1, vi 1000, vi c.escalate, vi 0, vi 64, vi c.tickets, vi 1, vi 10000, vi c.policy, vi 0, vi 2]), (42, vi 2)] (by kernel_rfl) ?_
        refine g_round ⟨2, by exact ⟨by omega, take_all_step hi1_1 rfl (by simp [inB]; omega)⟩⟩ [1, 1] (by first | omega | (simp; done) | (simp; omega)) (by kernel_rfl) (by kernel_rfl)
  · refine g_adv 12 [.o 1688 1, .c 1689, .b 1, .c 423] 1 [(41, .agg #[vi c.regions, vi 1, vi 8, vi c.objects, vi 1, vi 8, vi c.stripes, vi 1, vi 8, vi c.width, vi 1, vi 8, vi c.threads, vi 1, vi 64, vi c.slots, vi 0, vi 48, vi c.regs, vi 1, vi 8, vi c.locks, vi 1, vi 4096, vi c.undo, vi 1, vi 1000, vi c.escalate, vi 0, vi 64, vi c.tickets, vi 1, vi 10000, vi c.policy, vi 0, vi 2]), (42, vi 2), (44, .agg #[vi c.stripes, vi 1, vi 8])] (by kernel_rfl) ?_
    refine g_op (by kernel_rfl) (ot_new #[vi 0, vi 0, vi 0] 152 (by kernel_rfl) ?_)
    intro b2
    refine g_op (by kernel_rfl) (ot_store 0 b2 0 [vi c.stripes, vi 1, vi 8] (by kernel_rfl) (by kernel_rfl) ?_)
    refine g_adv 4 [.o 3378 1, .c 3379] 2 [(4, pt b2 0), (41, .agg #[vi c.regions, vi 1, vi 8, vi c.objects, vi 1, vi 8, vi c.stripes, vi 1, vi 8, vi c.width, vi 1, vi 8, vi c.threads, vi 1, vi 64, vi c.slots, vi 0, vi 48, vi c.regs, vi 1, vi 8, vi c.locks, vi 1, vi 4096, vi c.undo, vi 1, vi 1000, vi c.escalate, vi 0, vi 64, vi c.tickets, vi 1, vi 10000, vi c.policy, vi 0, vi 2]), (42, vi 2), (45, pt b2 0)] (by kernel_rfl) ?_
    refine g_op (by kernel_rfl) (ot_load 0 b2 0 (vi c.stripes) (by kernel_rfl) (by kernel_rfl) ?_)
    refine g_adv 1 [.o 3378 3] 1 [(4, pt b2 0), (41, .agg #[vi c.regions, vi 1, vi 8, vi c.objects, vi 1, vi 8, vi c.stripes, vi 1, vi 8, vi c.width, vi 1, vi 8, vi c.threads, vi 1, vi 64, vi c.slots, vi 0, vi 48, vi c.regs, vi 1, vi 8, vi c.locks, vi 1, vi 4096, vi c.undo, vi 1, vi 1000, vi c.escalate, vi 0, vi 64, vi c.tickets, vi 1, vi 10000, vi c.policy, vi 0, vi 2]), (42, vi 2), (46, vi c.stripes), (47, pt b2 1)] (by kernel_rfl) ?_
    refine g_op (by kernel_rfl) (ot_load 0 b2 1 (vi 1) (by kernel_rfl) (by kernel_rfl) ?_)
    refine g_adv 2 [.o 3378 6] 1 [(4, pt b2 0), (41, .agg #[vi c.regions, vi 1, vi 8, vi c.objects, vi 1, vi 8, vi c.stripes, vi 1, vi 8, vi c.width, vi 1, vi 8, vi c.threads, vi 1, vi 64, vi c.slots, vi 0, vi 48, vi c.regs, vi 1, vi 8, vi c.locks, vi 1, vi 4096, vi c.undo, vi 1, vi 1000, vi c.escalate, vi 0, vi 64, vi c.tickets, vi 1, vi 10000, vi c.policy, vi 0, vi 2]), (42, vi 2), (50, vb (decide (c.stripes < 1)))] (by kernel_rfl) ?_
    refine g_bool 50 (decide (c.stripes < 1)) (by kernel_rfl) (fun h1 => ?_) (fun h1 => ?_)
    · have h1p : c.stripes < 1 := of_decide_eq_true h1
      refine g_adv 13 [] 7 [(2, vi 1)] (by kernel_rfl) ?_
      refine g_post () [2] [vi 1] (.tmp (by kernel_rfl) .nil) (by first | (simp [resV, check, Conf.ok, Conf.bounds, inB] at hi1_1 ⊢; omega) | (simp [Conf.bounds] at hi1_1; simp [resV, check, Conf.ok, Conf.bounds, hi1_1])) (by kernel_rfl)
    · have h1p : ¬ (c.stripes < 1) := of_decide_eq_false h1
      refine g_adv 1 [.o 3378 7] 1 [(4, pt b2 0), (41, .agg #[vi c.regions, vi 1, vi 8, vi c.objects, vi 1, vi 8, vi c.stripes, vi 1, vi 8, vi c.width, vi 1, vi 8, vi c.threads, vi 1, vi 64, vi c.slots, vi 0, vi 48, vi c.regs, vi 1, vi 8, vi c.locks, vi 1, vi 4096, vi c.undo, vi 1, vi 1000, vi c.escalate, vi 0, vi 64, vi c.tickets, vi 1, vi 10000, vi c.policy, vi 0, vi 2]), (42, vi 2), (50, vb false), (51, pt b2 0)] (by kernel_rfl) ?_
      refine g_op (by kernel_rfl) (ot_load 0 b2 0 (vi c.stripes) (by kernel_rfl) (by kernel_rfl) ?_)
      refine g_adv 1 [.o 3378 9] 1 [(41, .agg #[vi c.regions, vi 1, vi 8, vi c.objects, vi 1, vi 8, vi c.stripes, vi 1, vi 8, vi c.width, vi 1, vi 8, vi c.threads, vi 1, vi 64, vi c.slots, vi 0, vi 48, vi c.regs, vi 1, vi 8, vi c.locks, vi 1, vi 4096, vi c.undo, vi 1, vi 1000, vi c.escalate, vi 0, vi 64, vi c.tickets, vi 1, vi 10000, vi c.policy, vi 0, vi 2]), (42, vi 2), (50, vb false), (52, vi c.stripes), (53, pt b2 2)] (by kernel_rfl) ?_
      refine g_op (by kernel_rfl) (ot_load 0 b2 2 (vi 8) (by kernel_rfl) (by kernel_rfl) ?_)
      refine g_adv 3 [] 1 [(41, .agg #[vi c.regions, vi 1, vi 8, vi c.objects, vi 1, vi 8, vi c.stripes, vi 1, vi 8, vi c.width, vi 1, vi 8, vi c.threads, vi 1, vi 64, vi c.slots, vi 0, vi 48, vi c.regs, vi 1, vi 8, vi c.locks, vi 1, vi 4096, vi c.undo, vi 1, vi 1000, vi c.escalate, vi 0, vi 64, vi c.tickets, vi 1, vi 10000, vi c.policy, vi 0, vi 2]), (42, vi 2), (56, vb (decide (c.stripes > 8)))] (by kernel_rfl) ?_
      refine g_cond (decide (c.stripes > 8)) (by kernel_rfl) (fun h2 => ?_) (fun h2 => ?_)
      · have h2p : c.stripes > 8 := of_decide_eq_true h2
        refine g_adv 5 [] 6 [(2, vi 1)] (by kernel_rfl) ?_
        refine g_post () [2] [vi 1] (.tmp (by kernel_rfl) .nil) (by first | (simp [resV, check, Conf.ok, Conf.bounds, inB] at hi1_1 ⊢; omega) | (simp [Conf.bounds] at hi1_1; simp [resV, check, Conf.ok, Conf.bounds, hi1_1])) (by kernel_rfl)
      · have h2p : ¬ (c.stripes > 8) := of_decide_eq_false h2
        refine g_adv 6 [] 3 [(41, .agg #[vi c.regions, vi 1, vi 8, vi c.objects, vi 1, vi 8, vi c.stripes, vi 1, vi 8, vi c.width, vi 1, vi 8, vi c.threads, vi 1, vi 64, vi c.slots, vi 0, vi 48, vi c.regs, vi 1, vi 8, vi c.locks, vi 1, vi 4096, vi c.undo, vi 1, vi 1000, vi c.escalate, vi 0, vi 64, vi c.tickets, vi 1, vi 10000, vi c.policy, vi 0, vi 2]), (42, vi 3)] (by kernel_rfl) ?_
        refine g_round ⟨3, by exact ⟨by omega, take_all_step hi1_1 rfl (by simp [inB]; omega)⟩⟩ [1, 1] (by first | omega | (simp; done) | (simp; omega)) (by kernel_rfl) (by kernel_rfl)
  · refine g_adv 12 [.o 1688 1, .c 1689, .b 1, .c 423] 1 [(41, .agg #[vi c.regions, vi 1, vi 8, vi c.objects, vi 1, vi 8, vi c.stripes, vi 1, vi 8, vi c.width, vi 1, vi 8, vi c.threads, vi 1, vi 64, vi c.slots, vi 0, vi 48, vi c.regs, vi 1, vi 8, vi c.locks, vi 1, vi 4096, vi c.undo, vi 1, vi 1000, vi c.escalate, vi 0, vi 64, vi c.tickets, vi 1, vi 10000, vi c.policy, vi 0, vi 2]), (42, vi 3), (44, .agg #[vi c.width, vi 1, vi 8])] (by kernel_rfl) ?_
    refine g_op (by kernel_rfl) (ot_new #[vi 0, vi 0, vi 0] 152 (by kernel_rfl) ?_)
    intro b2
    refine g_op (by kernel_rfl) (ot_store 0 b2 0 [vi c.width, vi 1, vi 8] (by kernel_rfl) (by kernel_rfl) ?_)
    refine g_adv 4 [.o 3378 1, .c 3379] 2 [(4, pt b2 0), (41, .agg #[vi c.regions, vi 1, vi 8, vi c.objects, vi 1, vi 8, vi c.stripes, vi 1, vi 8, vi c.width, vi 1, vi 8, vi c.threads, vi 1, vi 64, vi c.slots, vi 0, vi 48, vi c.regs, vi 1, vi 8, vi c.locks, vi 1, vi 4096, vi c.undo, vi 1, vi 1000, vi c.escalate, vi 0, vi 64, vi c.tickets, vi 1, vi 10000, vi c.policy, vi 0, vi 2]), (42, vi 3), (45, pt b2 0)] (by kernel_rfl) ?_
    refine g_op (by kernel_rfl) (ot_load 0 b2 0 (vi c.width) (by kernel_rfl) (by kernel_rfl) ?_)
    refine g_adv 1 [.o 3378 3] 1 [(4, pt b2 0), (41, .agg #[vi c.regions, vi 1, vi 8, vi c.objects, vi 1, vi 8, vi c.stripes, vi 1, vi 8, vi c.width, vi 1, vi 8, vi c.threads, vi 1, vi 64, vi c.slots, vi 0, vi 48, vi c.regs, vi 1, vi 8, vi c.locks, vi 1, vi 4096, vi c.undo, vi 1, vi 1000, vi c.escalate, vi 0, vi 64, vi c.tickets, vi 1, vi 10000, vi c.policy, vi 0, vi 2]), (42, vi 3), (46, vi c.width), (47, pt b2 1)] (by kernel_rfl) ?_
    refine g_op (by kernel_rfl) (ot_load 0 b2 1 (vi 1) (by kernel_rfl) (by kernel_rfl) ?_)
    refine g_adv 2 [.o 3378 6] 1 [(4, pt b2 0), (41, .agg #[vi c.regions, vi 1, vi 8, vi c.objects, vi 1, vi 8, vi c.stripes, vi 1, vi 8, vi c.width, vi 1, vi 8, vi c.threads, vi 1, vi 64, vi c.slots, vi 0, vi 48, vi c.regs, vi 1, vi 8, vi c.locks, vi 1, vi 4096, vi c.undo, vi 1, vi 1000, vi c.escalate, vi 0, vi 64, vi c.tickets, vi 1, vi 10000, vi c.policy, vi 0, vi 2]), (42, vi 3), (50, vb (decide (c.width < 1)))] (by kernel_rfl) ?_
    refine g_bool 50 (decide (c.width < 1)) (by kernel_rfl) (fun h1 => ?_) (fun h1 => ?_)
    · have h1p : c.width < 1 := of_decide_eq_true h1
      refine g_adv 13 [] 7 [(2, vi 1)] (by kernel_rfl) ?_
      refine g_post () [2] [vi 1] (.tmp (by kernel_rfl) .nil) (by first | (simp [resV, check, Conf.ok, Conf.bounds, inB] at hi1_1 ⊢; omega) | (simp [Conf.bounds] at hi1_1; simp [resV, check, Conf.ok, Conf.bounds, hi1_1])) (by kernel_rfl)
    · have h1p : ¬ (c.width < 1) := of_decide_eq_false h1
      refine g_adv 1 [.o 3378 7] 1 [(4, pt b2 0), (41, .agg #[vi c.regions, vi 1, vi 8, vi c.objects, vi 1, vi 8, vi c.stripes, vi 1, vi 8, vi c.width, vi 1, vi 8, vi c.threads, vi 1, vi 64, vi c.slots, vi 0, vi 48, vi c.regs, vi 1, vi 8, vi c.locks, vi 1, vi 4096, vi c.undo, vi 1, vi 1000, vi c.escalate, vi 0, vi 64, vi c.tickets, vi 1, vi 10000, vi c.policy, vi 0, vi 2]), (42, vi 3), (50, vb false), (51, pt b2 0)] (by kernel_rfl) ?_
      refine g_op (by kernel_rfl) (ot_load 0 b2 0 (vi c.width) (by kernel_rfl) (by kernel_rfl) ?_)
      refine g_adv 1 [.o 3378 9] 1 [(41, .agg #[vi c.regions, vi 1, vi 8, vi c.objects, vi 1, vi 8, vi c.stripes, vi 1, vi 8, vi c.width, vi 1, vi 8, vi c.threads, vi 1, vi 64, vi c.slots, vi 0, vi 48, vi c.regs, vi 1, vi 8, vi c.locks, vi 1, vi 4096, vi c.undo, vi 1, vi 1000, vi c.escalate, vi 0, vi 64, vi c.tickets, vi 1, vi 10000, vi c.policy, vi 0, vi 2]), (42, vi 3), (50, vb false), (52, vi c.width), (53, pt b2 2)] (by kernel_rfl) ?_
      refine g_op (by kernel_rfl) (ot_load 0 b2 2 (vi 8) (by kernel_rfl) (by kernel_rfl) ?_)
      refine g_adv 3 [] 1 [(41, .agg #[vi c.regions, vi 1, vi 8, vi c.objects, vi 1, vi 8, vi c.stripes, vi 1, vi 8, vi c.width, vi 1, vi 8, vi c.threads, vi 1, vi 64, vi c.slots, vi 0, vi 48, vi c.regs, vi 1, vi 8, vi c.locks, vi 1, vi 4096, vi c.undo, vi 1, vi 1000, vi c.escalate, vi 0, vi 64, vi c.tickets, vi 1, vi 10000, vi c.policy, vi 0, vi 2]), (42, vi 3), (56, vb (decide (c.width > 8)))] (by kernel_rfl) ?_
      refine g_cond (decide (c.width > 8)) (by kernel_rfl) (fun h2 => ?_) (fun h2 => ?_)
      · have h2p : c.width > 8 := of_decide_eq_true h2
        refine g_adv 5 [] 6 [(2, vi 1)] (by kernel_rfl) ?_
        refine g_post () [2] [vi 1] (.tmp (by kernel_rfl) .nil) (by first | (simp [resV, check, Conf.ok, Conf.bounds, inB] at hi1_1 ⊢; omega) | (simp [Conf.bounds] at hi1_1; simp [resV, check, Conf.ok, Conf.bounds, hi1_1])) (by kernel_rfl)
      · have h2p : ¬ (c.width > 8) := of_decide_eq_false h2
        refine g_adv 6 [] 3 [(41, .agg #[vi c.regions, vi 1, vi 8, vi c.objects, vi 1, vi 8, vi c.stripes, vi 1, vi 8, vi c.width, vi 1, vi 8, vi c.threads, vi 1, vi 64, vi c.slots, vi 0, vi 48, vi c.regs, vi 1, vi 8, vi c.locks, vi 1, vi 4096, vi c.undo, vi 1, vi 1000, vi c.escalate, vi 0, vi 64, vi c.tickets, vi 1, vi 10000, vi c.policy, vi 0, vi 2]), (42, vi 4)] (by kernel_rfl) ?_
        refine g_round ⟨4, by exact ⟨by omega, take_all_step hi1_1 rfl (by simp [inB]; omega)⟩⟩ [1, 1] (by first | omega | (simp; done) | (simp; omega)) (by kernel_rfl) (by kernel_rfl)
  · refine g_adv 12 [.o 1688 1, .c 1689, .b 1, .c 423] 1 [(41, .agg #[vi c.regions, vi 1, vi 8, vi c.objects, vi 1, vi 8, vi c.stripes, vi 1, vi 8, vi c.width, vi 1, vi 8, vi c.threads, vi 1, vi 64, vi c.slots, vi 0, vi 48, vi c.regs, vi 1, vi 8, vi c.locks, vi 1, vi 4096, vi c.undo, vi 1, vi 1000, vi c.escalate, vi 0, vi 64, vi c.tickets, vi 1, vi 10000, vi c.policy, vi 0, vi 2]), (42, vi 4), (44, .agg #[vi c.threads, vi 1, vi 64])] (by kernel_rfl) ?_
    refine g_op (by kernel_rfl) (ot_new #[vi 0, vi 0, vi 0] 152 (by kernel_rfl) ?_)
    intro b2
    refine g_op (by kernel_rfl) (ot_store 0 b2 0 [vi c.threads, vi 1, vi 64] (by kernel_rfl) (by kernel_rfl) ?_)
    refine g_adv 4 [.o 3378 1, .c 3379] 2 [(4, pt b2 0), (41, .agg #[vi c.regions, vi 1, vi 8, vi c.objects, vi 1, vi 8, vi c.stripes, vi 1, vi 8, vi c.width, vi 1, vi 8, vi c.threads, vi 1, vi 64, vi c.slots, vi 0, vi 48, vi c.regs, vi 1, vi 8, vi c.locks, vi 1, vi 4096, vi c.undo, vi 1, vi 1000, vi c.escalate, vi 0, vi 64, vi c.tickets, vi 1, vi 10000, vi c.policy, vi 0, vi 2]), (42, vi 4), (45, pt b2 0)] (by kernel_rfl) ?_
    refine g_op (by kernel_rfl) (ot_load 0 b2 0 (vi c.threads) (by kernel_rfl) (by kernel_rfl) ?_)
    refine g_adv 1 [.o 3378 3] 1 [(4, pt b2 0), (41, .agg #[vi c.regions, vi 1, vi 8, vi c.objects, vi 1, vi 8, vi c.stripes, vi 1, vi 8, vi c.width, vi 1, vi 8, vi c.threads, vi 1, vi 64, vi c.slots, vi 0, vi 48, vi c.regs, vi 1, vi 8, vi c.locks, vi 1, vi 4096, vi c.undo, vi 1, vi 1000, vi c.escalate, vi 0, vi 64, vi c.tickets, vi 1, vi 10000, vi c.policy, vi 0, vi 2]), (42, vi 4), (46, vi c.threads), (47, pt b2 1)] (by kernel_rfl) ?_
    refine g_op (by kernel_rfl) (ot_load 0 b2 1 (vi 1) (by kernel_rfl) (by kernel_rfl) ?_)
    refine g_adv 2 [.o 3378 6] 1 [(4, pt b2 0), (41, .agg #[vi c.regions, vi 1, vi 8, vi c.objects, vi 1, vi 8, vi c.stripes, vi 1, vi 8, vi c.width, vi 1, vi 8, vi c.threads, vi 1, vi 64, vi c.slots, vi 0, vi 48, vi c.regs, vi 1, vi 8, vi c.locks, vi 1, vi 4096, vi c.undo, vi 1, vi 1000, vi c.escalate, vi 0, vi 64, vi c.tickets, vi 1, vi 10000, vi c.policy, vi 0, vi 2]), (42, vi 4), (50, vb (decide (c.threads < 1)))] (by kernel_rfl) ?_
    refine g_bool 50 (decide (c.threads < 1)) (by kernel_rfl) (fun h1 => ?_) (fun h1 => ?_)
    · have h1p : c.threads < 1 := of_decide_eq_true h1
      refine g_adv 13 [] 7 [(2, vi 1)] (by kernel_rfl) ?_
      refine g_post () [2] [vi 1] (.tmp (by kernel_rfl) .nil) (by first | (simp [resV, check, Conf.ok, Conf.bounds, inB] at hi1_1 ⊢; omega) | (simp [Conf.bounds] at hi1_1; simp [resV, check, Conf.ok, Conf.bounds, hi1_1])) (by kernel_rfl)
    · have h1p : ¬ (c.threads < 1) := of_decide_eq_false h1
      refine g_adv 1 [.o 3378 7] 1 [(4, pt b2 0), (41, .agg #[vi c.regions, vi 1, vi 8, vi c.objects, vi 1, vi 8, vi c.stripes, vi 1, vi 8, vi c.width, vi 1, vi 8, vi c.threads, vi 1, vi 64, vi c.slots, vi 0, vi 48, vi c.regs, vi 1, vi 8, vi c.locks, vi 1, vi 4096, vi c.undo, vi 1, vi 1000, vi c.escalate, vi 0, vi 64, vi c.tickets, vi 1, vi 10000, vi c.policy, vi 0, vi 2]), (42, vi 4), (50, vb false), (51, pt b2 0)] (by kernel_rfl) ?_
      refine g_op (by kernel_rfl) (ot_load 0 b2 0 (vi c.threads) (by kernel_rfl) (by kernel_rfl) ?_)
      refine g_adv 1 [.o 3378 9] 1 [(41, .agg #[vi c.regions, vi 1, vi 8, vi c.objects, vi 1, vi 8, vi c.stripes, vi 1, vi 8, vi c.width, vi 1, vi 8, vi c.threads, vi 1, vi 64, vi c.slots, vi 0, vi 48, vi c.regs, vi 1, vi 8, vi c.locks, vi 1, vi 4096, vi c.undo, vi 1, vi 1000, vi c.escalate, vi 0, vi 64, vi c.tickets, vi 1, vi 10000, vi c.policy, vi 0, vi 2]), (42, vi 4), (50, vb false), (52, vi c.threads), (53, pt b2 2)] (by kernel_rfl) ?_
      refine g_op (by kernel_rfl) (ot_load 0 b2 2 (vi 64) (by kernel_rfl) (by kernel_rfl) ?_)
      refine g_adv 3 [] 1 [(41, .agg #[vi c.regions, vi 1, vi 8, vi c.objects, vi 1, vi 8, vi c.stripes, vi 1, vi 8, vi c.width, vi 1, vi 8, vi c.threads, vi 1, vi 64, vi c.slots, vi 0, vi 48, vi c.regs, vi 1, vi 8, vi c.locks, vi 1, vi 4096, vi c.undo, vi 1, vi 1000, vi c.escalate, vi 0, vi 64, vi c.tickets, vi 1, vi 10000, vi c.policy, vi 0, vi 2]), (42, vi 4), (56, vb (decide (c.threads > 64)))] (by kernel_rfl) ?_
      refine g_cond (decide (c.threads > 64)) (by kernel_rfl) (fun h2 => ?_) (fun h2 => ?_)
      · have h2p : c.threads > 64 := of_decide_eq_true h2
        refine g_adv 5 [] 6 [(2, vi 1)] (by kernel_rfl) ?_
        refine g_post () [2] [vi 1] (.tmp (by kernel_rfl) .nil) (by first | (simp [resV, check, Conf.ok, Conf.bounds, inB] at hi1_1 ⊢; omega) | (simp [Conf.bounds] at hi1_1; simp [resV, check, Conf.ok, Conf.bounds, hi1_1])) (by kernel_rfl)
      · have h2p : ¬ (c.threads > 64) := of_decide_eq_false h2
        refine g_adv 6 [] 3 [(41, .agg #[vi c.regions, vi 1, vi 8, vi c.objects, vi 1, vi 8, vi c.stripes, vi 1, vi 8, vi c.width, vi 1, vi 8, vi c.threads, vi 1, vi 64, vi c.slots, vi 0, vi 48, vi c.regs, vi 1, vi 8, vi c.locks, vi 1, vi 4096, vi c.undo, vi 1, vi 1000, vi c.escalate, vi 0, vi 64, vi c.tickets, vi 1, vi 10000, vi c.policy, vi 0, vi 2]), (42, vi 5)] (by kernel_rfl) ?_
        refine g_round ⟨5, by exact ⟨by omega, take_all_step hi1_1 rfl (by simp [inB]; omega)⟩⟩ [1, 1] (by first | omega | (simp; done) | (simp; omega)) (by kernel_rfl) (by kernel_rfl)
  · refine g_adv 12 [.o 1688 1, .c 1689, .b 1, .c 423] 1 [(41, .agg #[vi c.regions, vi 1, vi 8, vi c.objects, vi 1, vi 8, vi c.stripes, vi 1, vi 8, vi c.width, vi 1, vi 8, vi c.threads, vi 1, vi 64, vi c.slots, vi 0, vi 48, vi c.regs, vi 1, vi 8, vi c.locks, vi 1, vi 4096, vi c.undo, vi 1, vi 1000, vi c.escalate, vi 0, vi 64, vi c.tickets, vi 1, vi 10000, vi c.policy, vi 0, vi 2]), (42, vi 5), (44, .agg #[vi c.slots, vi 0, vi 48])] (by kernel_rfl) ?_
    refine g_op (by kernel_rfl) (ot_new #[vi 0, vi 0, vi 0] 152 (by kernel_rfl) ?_)
    intro b2
    refine g_op (by kernel_rfl) (ot_store 0 b2 0 [vi c.slots, vi 0, vi 48] (by kernel_rfl) (by kernel_rfl) ?_)
    refine g_adv 4 [.o 3378 1, .c 3379] 2 [(4, pt b2 0), (41, .agg #[vi c.regions, vi 1, vi 8, vi c.objects, vi 1, vi 8, vi c.stripes, vi 1, vi 8, vi c.width, vi 1, vi 8, vi c.threads, vi 1, vi 64, vi c.slots, vi 0, vi 48, vi c.regs, vi 1, vi 8, vi c.locks, vi 1, vi 4096, vi c.undo, vi 1, vi 1000, vi c.escalate, vi 0, vi 64, vi c.tickets, vi 1, vi 10000, vi c.policy, vi 0, vi 2]), (42, vi 5), (45, pt b2 0)] (by kernel_rfl) ?_
    refine g_op (by kernel_rfl) (ot_load 0 b2 0 (vi c.slots) (by kernel_rfl) (by kernel_rfl) ?_)
    refine g_adv 1 [.o 3378 3] 1 [(4, pt b2 0), (41, .agg #[vi c.regions, vi 1, vi 8, vi c.objects, vi 1, vi 8, vi c.stripes, vi 1, vi 8, vi c.width, vi 1, vi 8, vi c.threads, vi 1, vi 64, vi c.slots, vi 0, vi 48, vi c.regs, vi 1, vi 8, vi c.locks, vi 1, vi 4096, vi c.undo, vi 1, vi 1000, vi c.escalate, vi 0, vi 64, vi c.tickets, vi 1, vi 10000, vi c.policy, vi 0, vi 2]), (42, vi 5), (46, vi c.slots), (47, pt b2 1)] (by kernel_rfl) ?_
    refine g_op (by kernel_rfl) (ot_load 0 b2 1 (vi 0) (by kernel_rfl) (by kernel_rfl) ?_)
    refine g_adv 2 [.o 3378 6] 1 [(4, pt b2 0), (41, .agg #[vi c.regions, vi 1, vi 8, vi c.objects, vi 1, vi 8, vi c.stripes, vi 1, vi 8, vi c.width, vi 1, vi 8, vi c.threads, vi 1, vi 64, vi c.slots, vi 0, vi 48, vi c.regs, vi 1, vi 8, vi c.locks, vi 1, vi 4096, vi c.undo, vi 1, vi 1000, vi c.escalate, vi 0, vi 64, vi c.tickets, vi 1, vi 10000, vi c.policy, vi 0, vi 2]), (42, vi 5), (50, vb (decide (c.slots < 0)))] (by kernel_rfl) ?_
    refine g_bool 50 (decide (c.slots < 0)) (by kernel_rfl) (fun h1 => ?_) (fun h1 => ?_)
    · have h1p : c.slots < 0 := of_decide_eq_true h1
      refine g_adv 13 [] 7 [(2, vi 1)] (by kernel_rfl) ?_
      refine g_post () [2] [vi 1] (.tmp (by kernel_rfl) .nil) (by first | (simp [resV, check, Conf.ok, Conf.bounds, inB] at hi1_1 ⊢; omega) | (simp [Conf.bounds] at hi1_1; simp [resV, check, Conf.ok, Conf.bounds, hi1_1])) (by kernel_rfl)
    · have h1p : ¬ (c.slots < 0) := of_decide_eq_false h1
      refine g_adv 1 [.o 3378 7] 1 [(4, pt b2 0), (41, .agg #[vi c.regions, vi 1, vi 8, vi c.objects, vi 1, vi 8, vi c.stripes, vi 1, vi 8, vi c.width, vi 1, vi 8, vi c.threads, vi 1, vi 64, vi c.slots, vi 0, vi 48, vi c.regs, vi 1, vi 8, vi c.locks, vi 1, vi 4096, vi c.undo, vi 1, vi 1000, vi c.escalate, vi 0, vi 64, vi c.tickets, vi 1, vi 10000, vi c.policy, vi 0, vi 2]), (42, vi 5), (50, vb false), (51, pt b2 0)] (by kernel_rfl) ?_
      refine g_op (by kernel_rfl) (ot_load 0 b2 0 (vi c.slots) (by kernel_rfl) (by kernel_rfl) ?_)
      refine g_adv 1 [.o 3378 9] 1 [(41, .agg #[vi c.regions, vi 1, vi 8, vi c.objects, vi 1, vi 8, vi c.stripes, vi 1, vi 8, vi c.width, vi 1, vi 8, vi c.threads, vi 1, vi 64, vi c.slots, vi 0, vi 48, vi c.regs, vi 1, vi 8, vi c.locks, vi 1, vi 4096, vi c.undo, vi 1, vi 1000, vi c.escalate, vi 0, vi 64, vi c.tickets, vi 1, vi 10000, vi c.policy, vi 0, vi 2]), (42, vi 5), (50, vb false), (52, vi c.slots), (53, pt b2 2)] (by kernel_rfl) ?_
      refine g_op (by kernel_rfl) (ot_load 0 b2 2 (vi 48) (by kernel_rfl) (by kernel_rfl) ?_)
      refine g_adv 3 [] 1 [(41, .agg #[vi c.regions, vi 1, vi 8, vi c.objects, vi 1, vi 8, vi c.stripes, vi 1, vi 8, vi c.width, vi 1, vi 8, vi c.threads, vi 1, vi 64, vi c.slots, vi 0, vi 48, vi c.regs, vi 1, vi 8, vi c.locks, vi 1, vi 4096, vi c.undo, vi 1, vi 1000, vi c.escalate, vi 0, vi 64, vi c.tickets, vi 1, vi 10000, vi c.policy, vi 0, vi 2]), (42, vi 5), (56, vb (decide (c.slots > 48)))] (by kernel_rfl) ?_
      refine g_cond (decide (c.slots > 48)) (by kernel_rfl) (fun h2 => ?_) (fun h2 => ?_)
      · have h2p : c.slots > 48 := of_decide_eq_true h2
        refine g_adv 5 [] 6 [(2, vi 1)] (by kernel_rfl) ?_
        refine g_post () [2] [vi 1] (.tmp (by kernel_rfl) .nil) (by first | (simp [resV, check, Conf.ok, Conf.bounds, inB] at hi1_1 ⊢; omega) | (simp [Conf.bounds] at hi1_1; simp [resV, check, Conf.ok, Conf.bounds, hi1_1])) (by kernel_rfl)
      · have h2p : ¬ (c.slots > 48) := of_decide_eq_false h2
        refine g_adv 6 [] 3 [(41, .agg #[vi c.regions, vi 1, vi 8, vi c.objects, vi 1, vi 8, vi c.stripes, vi 1, vi 8, vi c.width, vi 1, vi 8, vi c.threads, vi 1, vi 64, vi c.slots, vi 0, vi 48, vi c.regs, vi 1, vi 8, vi c.locks, vi 1, vi 4096, vi c.undo, vi 1, vi 1000, vi c.escalate, vi 0, vi 64, vi c.tickets, vi 1, vi 10000, vi c.policy, vi 0, vi 2]), (42, vi 6)] (by kernel_rfl) ?_
        refine g_round ⟨6, by exact ⟨by omega, take_all_step hi1_1 rfl (by simp [inB]; omega)⟩⟩ [1, 1] (by first | omega | (simp; done) | (simp; omega)) (by kernel_rfl) (by kernel_rfl)
  · refine g_adv 12 [.o 1688 1, .c 1689, .b 1, .c 423] 1 [(41, .agg #[vi c.regions, vi 1, vi 8, vi c.objects, vi 1, vi 8, vi c.stripes, vi 1, vi 8, vi c.width, vi 1, vi 8, vi c.threads, vi 1, vi 64, vi c.slots, vi 0, vi 48, vi c.regs, vi 1, vi 8, vi c.locks, vi 1, vi 4096, vi c.undo, vi 1, vi 1000, vi c.escalate, vi 0, vi 64, vi c.tickets, vi 1, vi 10000, vi c.policy, vi 0, vi 2]), (42, vi 6), (44, .agg #[vi c.regs, vi 1, vi 8])] (by kernel_rfl) ?_
    refine g_op (by kernel_rfl) (ot_new #[vi 0, vi 0, vi 0] 152 (by kernel_rfl) ?_)
    intro b2
    refine g_op (by kernel_rfl) (ot_store 0 b2 0 [vi c.regs, vi 1, vi 8] (by kernel_rfl) (by kernel_rfl) ?_)
    refine g_adv 4 [.o 3378 1, .c 3379] 2 [(4, pt b2 0), (41, .agg #[vi c.regions, vi 1, vi 8, vi c.objects, vi 1, vi 8, vi c.stripes, vi 1, vi 8, vi c.width, vi 1, vi 8, vi c.threads, vi 1, vi 64, vi c.slots, vi 0, vi 48, vi c.regs, vi 1, vi 8, vi c.locks, vi 1, vi 4096, vi c.undo, vi 1, vi 1000, vi c.escalate, vi 0, vi 64, vi c.tickets, vi 1, vi 10000, vi c.policy, vi 0, vi 2]), (42, vi 6), (45, pt b2 0)] (by kernel_rfl) ?_
    refine g_op (by kernel_rfl) (ot_load 0 b2 0 (vi c.regs) (by kernel_rfl) (by kernel_rfl) ?_)
    refine g_adv 1 [.o 3378 3] 1 [(4, pt b2 0), (41, .agg #[vi c.regions, vi 1, vi 8, vi c.objects, vi 1, vi 8, vi c.stripes, vi 1, vi 8, vi c.width, vi 1, vi 8, vi c.threads, vi 1, vi 64, vi c.slots, vi 0, vi 48, vi c.regs, vi 1, vi 8, vi c.locks, vi 1, vi 4096, vi c.undo, vi 1, vi 1000, vi c.escalate, vi 0, vi 64, vi c.tickets, vi 1, vi 10000, vi c.policy, vi 0, vi 2]), (42, vi 6), (46, vi c.regs), (47, pt b2 1)] (by kernel_rfl) ?_
    refine g_op (by kernel_rfl) (ot_load 0 b2 1 (vi 1) (by kernel_rfl) (by kernel_rfl) ?_)
    refine g_adv 2 [.o 3378 6] 1 [(4, pt b2 0), (41, .agg #[vi c.regions, vi 1, vi 8, vi c.objects, vi 1, vi 8, vi c.stripes, vi 1, vi 8, vi c.width, vi 1, vi 8, vi c.threads, vi 1, vi 64, vi c.slots, vi 0, vi 48, vi c.regs, vi 1, vi 8, vi c.locks, vi 1, vi 4096, vi c.undo, vi 1, vi 1000, vi c.escalate, vi 0, vi 64, vi c.tickets, vi 1, vi 10000, vi c.policy, vi 0, vi 2]), (42, vi 6), (50, vb (decide (c.regs < 1)))] (by kernel_rfl) ?_
    refine g_bool 50 (decide (c.regs < 1)) (by kernel_rfl) (fun h1 => ?_) (fun h1 => ?_)
    · have h1p : c.regs < 1 := of_decide_eq_true h1
      refine g_adv 13 [] 7 [(2, vi 1)] (by kernel_rfl) ?_
      refine g_post () [2] [vi 1] (.tmp (by kernel_rfl) .nil) (by first | (simp [resV, check, Conf.ok, Conf.bounds, inB] at hi1_1 ⊢; omega) | (simp [Conf.bounds] at hi1_1; simp [resV, check, Conf.ok, Conf.bounds, hi1_1])) (by kernel_rfl)
    · have h1p : ¬ (c.regs < 1) := of_decide_eq_false h1
      refine g_adv 1 [.o 3378 7] 1 [(4, pt b2 0), (41, .agg #[vi c.regions, vi 1, vi 8, vi c.objects, vi 1, vi 8, vi c.stripes, vi 1, vi 8, vi c.width, vi 1, vi 8, vi c.threads, vi 1, vi 64, vi c.slots, vi 0, vi 48, vi c.regs, vi 1, vi 8, vi c.locks, vi 1, vi 4096, vi c.undo, vi 1, vi 1000, vi c.escalate, vi 0, vi 64, vi c.tickets, vi 1, vi 10000, vi c.policy, vi 0, vi 2]), (42, vi 6), (50, vb false), (51, pt b2 0)] (by kernel_rfl) ?_
      refine g_op (by kernel_rfl) (ot_load 0 b2 0 (vi c.regs) (by kernel_rfl) (by kernel_rfl) ?_)
      refine g_adv 1 [.o 3378 9] 1 [(41, .agg #[vi c.regions, vi 1, vi 8, vi c.objects, vi 1, vi 8, vi c.stripes, vi 1, vi 8, vi c.width, vi 1, vi 8, vi c.threads, vi 1, vi 64, vi c.slots, vi 0, vi 48, vi c.regs, vi 1, vi 8, vi c.locks, vi 1, vi 4096, vi c.undo, vi 1, vi 1000, vi c.escalate, vi 0, vi 64, vi c.tickets, vi 1, vi 10000, vi c.policy, vi 0, vi 2]), (42, vi 6), (50, vb false), (52, vi c.regs), (53, pt b2 2)] (by kernel_rfl) ?_
      refine g_op (by kernel_rfl) (ot_load 0 b2 2 (vi 8) (by kernel_rfl) (by kernel_rfl) ?_)
      refine g_adv 3 [] 1 [(41, .agg #[vi c.regions, vi 1, vi 8, vi c.objects, vi 1, vi 8, vi c.stripes, vi 1, vi 8, vi c.width, vi 1, vi 8, vi c.threads, vi 1, vi 64, vi c.slots, vi 0, vi 48, vi c.regs, vi 1, vi 8, vi c.locks, vi 1, vi 4096, vi c.undo, vi 1, vi 1000, vi c.escalate, vi 0, vi 64, vi c.tickets, vi 1, vi 10000, vi c.policy, vi 0, vi 2]), (42, vi 6), (56, vb (decide (c.regs > 8)))] (by kernel_rfl) ?_
      refine g_cond (decide (c.regs > 8)) (by kernel_rfl) (fun h2 => ?_) (fun h2 => ?_)
      · have h2p : c.regs > 8 := of_decide_eq_true h2
        refine g_adv 5 [] 6 [(2, vi 1)] (by kernel_rfl) ?_
        refine g_post () [2] [vi 1] (.tmp (by kernel_rfl) .nil) (by first | (simp [resV, check, Conf.ok, Conf.bounds, inB] at hi1_1 ⊢; omega) | (simp [Conf.bounds] at hi1_1; simp [resV, check, Conf.ok, Conf.bounds, hi1_1])) (by kernel_rfl)
      · have h2p : ¬ (c.regs > 8) := of_decide_eq_false h2
        refine g_adv 6 [] 3 [(41, .agg #[vi c.regions, vi 1, vi 8, vi c.objects, vi 1, vi 8, vi c.stripes, vi 1, vi 8, vi c.width, vi 1, vi 8, vi c.threads, vi 1, vi 64, vi c.slots, vi 0, vi 48, vi c.regs, vi 1, vi 8, vi c.locks, vi 1, vi 4096, vi c.undo, vi 1, vi 1000, vi c.escalate, vi 0, vi 64, vi c.tickets, vi 1, vi 10000, vi c.policy, vi 0, vi 2]), (42, vi 7)] (by kernel_rfl) ?_
        refine g_round ⟨7, by exact ⟨by omega, take_all_step hi1_1 rfl (by simp [inB]; omega)⟩⟩ [1, 1] (by first | omega | (simp; done) | (simp; omega)) (by kernel_rfl) (by kernel_rfl)
  · refine g_adv 12 [.o 1688 1, .c 1689, .b 1, .c 423] 1 [(41, .agg #[vi c.regions, vi 1, vi 8, vi c.objects, vi 1, vi 8, vi c.stripes, vi 1, vi 8, vi c.width, vi 1, vi 8, vi c.threads, vi 1, vi 64, vi c.slots, vi 0, vi 48, vi c.regs, vi 1, vi 8, vi c.locks, vi 1, vi 4096, vi c.undo, vi 1, vi 1000, vi c.escalate, vi 0, vi 64, vi c.tickets, vi 1, vi 10000, vi c.policy, vi 0, vi 2]), (42, vi 7), (44, .agg #[vi c.locks, vi 1, vi 4096])] (by kernel_rfl) ?_
    refine g_op (by kernel_rfl) (ot_new #[vi 0, vi 0, vi 0] 152 (by kernel_rfl) ?_)
    intro b2
    refine g_op (by kernel_rfl) (ot_store 0 b2 0 [vi c.locks, vi 1, vi 4096] (by kernel_rfl) (by kernel_rfl) ?_)
    refine g_adv 4 [.o 3378 1, .c 3379] 2 [(4, pt b2 0), (41, .agg #[vi c.regions, vi 1, vi 8, vi c.objects, vi 1, vi 8, vi c.stripes, vi 1, vi 8, vi c.width, vi 1, vi 8, vi c.threads, vi 1, vi 64, vi c.slots, vi 0, vi 48, vi c.regs, vi 1, vi 8, vi c.locks, vi 1, vi 4096, vi c.undo, vi 1, vi 1000, vi c.escalate, vi 0, vi 64, vi c.tickets, vi 1, vi 10000, vi c.policy, vi 0, vi 2]), (42, vi 7), (45, pt b2 0)] (by kernel_rfl) ?_
    refine g_op (by kernel_rfl) (ot_load 0 b2 0 (vi c.locks) (by kernel_rfl) (by kernel_rfl) ?_)
    refine g_adv 1 [.o 3378 3] 1 [(4, pt b2 0), (41, .agg #[vi c.regions, vi 1, vi 8, vi c.objects, vi 1, vi 8, vi c.stripes, vi 1, vi 8, vi c.width, vi 1, vi 8, vi c.threads, vi 1, vi 64, vi c.slots, vi 0, vi 48, vi c.regs, vi 1, vi 8, vi c.locks, vi 1, vi 4096, vi c.undo, vi 1, vi 1000, vi c.escalate, vi 0, vi 64, vi c.tickets, vi 1, vi 10000, vi c.policy, vi 0, vi 2]), (42, vi 7), (46, vi c.locks), (47, pt b2 1)] (by kernel_rfl) ?_
    refine g_op (by kernel_rfl) (ot_load 0 b2 1 (vi 1) (by kernel_rfl) (by kernel_rfl) ?_)
    refine g_adv 2 [.o 3378 6] 1 [(4, pt b2 0), (41, .agg #[vi c.regions, vi 1, vi 8, vi c.objects, vi 1, vi 8, vi c.stripes, vi 1, vi 8, vi c.width, vi 1, vi 8, vi c.threads, vi 1, vi 64, vi c.slots, vi 0, vi 48, vi c.regs, vi 1, vi 8, vi c.locks, vi 1, vi 4096, vi c.undo, vi 1, vi 1000, vi c.escalate, vi 0, vi 64, vi c.tickets, vi 1, vi 10000, vi c.policy, vi 0, vi 2]), (42, vi 7), (50, vb (decide (c.locks < 1)))] (by kernel_rfl) ?_
    refine g_bool 50 (decide (c.locks < 1)) (by kernel_rfl) (fun h1 => ?_) (fun h1 => ?_)
    · have h1p : c.locks < 1 := of_decide_eq_true h1
      refine g_adv 13 [] 7 [(2, vi 1)] (by kernel_rfl) ?_
      refine g_post () [2] [vi 1] (.tmp (by kernel_rfl) .nil) (by first | (simp [resV, check, Conf.ok, Conf.bounds, inB] at hi1_1 ⊢; omega) | (simp [Conf.bounds] at hi1_1; simp [resV, check, Conf.ok, Conf.bounds, hi1_1])) (by kernel_rfl)
    · have h1p : ¬ (c.locks < 1) := of_decide_eq_false h1
      refine g_adv 1 [.o 3378 7] 1 [(4, pt b2 0), (41, .agg #[vi c.regions, vi 1, vi 8, vi c.objects, vi 1, vi 8, vi c.stripes, vi 1, vi 8, vi c.width, vi 1, vi 8, vi c.threads, vi 1, vi 64, vi c.slots, vi 0, vi 48, vi c.regs, vi 1, vi 8, vi c.locks, vi 1, vi 4096, vi c.undo, vi 1, vi 1000, vi c.escalate, vi 0, vi 64, vi c.tickets, vi 1, vi 10000, vi c.policy, vi 0, vi 2]), (42, vi 7), (50, vb false), (51, pt b2 0)] (by kernel_rfl) ?_
      refine g_op (by kernel_rfl) (ot_load 0 b2 0 (vi c.locks) (by kernel_rfl) (by kernel_rfl) ?_)
      refine g_adv 1 [.o 3378 9] 1 [(41, .agg #[vi c.regions, vi 1, vi 8, vi c.objects, vi 1, vi 8, vi c.stripes, vi 1, vi 8, vi c.width, vi 1, vi 8, vi c.threads, vi 1, vi 64, vi c.slots, vi 0, vi 48, vi c.regs, vi 1, vi 8, vi c.locks, vi 1, vi 4096, vi c.undo, vi 1, vi 1000, vi c.escalate, vi 0, vi 64, vi c.tickets, vi 1, vi 10000, vi c.policy, vi 0, vi 2]), (42, vi 7), (50, vb false), (52, vi c.locks), (53, pt b2 2)] (by kernel_rfl) ?_
      refine g_op (by kernel_rfl) (ot_load 0 b2 2 (vi 4096) (by kernel_rfl) (by kernel_rfl) ?_)
      refine g_adv 3 [] 1 [(41, .agg #[vi c.regions, vi 1, vi 8, vi c.objects, vi 1, vi 8, vi c.stripes, vi 1, vi 8, vi c.width, vi 1, vi 8, vi c.threads, vi 1, vi 64, vi c.slots, vi 0, vi 48, vi c.regs, vi 1, vi 8, vi c.locks, vi 1, vi 4096, vi c.undo, vi 1, vi 1000, vi c.escalate, vi 0, vi 64, vi c.tickets, vi 1, vi 10000, vi c.policy, vi 0, vi 2]), (42, vi 7), (56, vb (decide (c.locks > 4096)))] (by kernel_rfl) ?_
      refine g_cond (decide (c.locks > 4096)) (by kernel_rfl) (fun h2 => ?_) (fun h2 => ?_)
      · have h2p : c.locks > 4096 := of_decide_eq_true h2
        refine g_adv 5 [] 6 [(2, vi 1)] (by kernel_rfl) ?_
        refine g_post () [2] [vi 1] (.tmp (by kernel_rfl) .nil) (by first | (simp [resV, check, Conf.ok, Conf.bounds, inB] at hi1_1 ⊢; omega) | (simp [Conf.bounds] at hi1_1; simp [resV, check, Conf.ok, Conf.bounds, hi1_1])) (by kernel_rfl)
      · have h2p : ¬ (c.locks > 4096) := of_decide_eq_false h2
        refine g_adv 6 [] 3 [(41, .agg #[vi c.regions, vi 1, vi 8, vi c.objects, vi 1, vi 8, vi c.stripes, vi 1, vi 8, vi c.width, vi 1, vi 8, vi c.threads, vi 1, vi 64, vi c.slots, vi 0, vi 48, vi c.regs, vi 1, vi 8, vi c.locks, vi 1, vi 4096, vi c.undo, vi 1, vi 1000, vi c.escalate, vi 0, vi 64, vi c.tickets, vi 1, vi 10000, vi c.policy, vi 0, vi 2]), (42, vi 8)] (by kernel_rfl) ?_
        refine g_round ⟨8, by exact ⟨by omega, take_all_step hi1_1 rfl (by simp [inB]; omega)⟩⟩ [1, 1] (by first | omega | (simp; done) | (simp; omega)) (by kernel_rfl) (by kernel_rfl)
  · refine g_adv 12 [.o 1688 1, .c 1689, .b 1, .c 423] 1 [(41, .agg #[vi c.regions, vi 1, vi 8, vi c.objects, vi 1, vi 8, vi c.stripes, vi 1, vi 8, vi c.width, vi 1, vi 8, vi c.threads, vi 1, vi 64, vi c.slots, vi 0, vi 48, vi c.regs, vi 1, vi 8, vi c.locks, vi 1, vi 4096, vi c.undo, vi 1, vi 1000, vi c.escalate, vi 0, vi 64, vi c.tickets, vi 1, vi 10000, vi c.policy, vi 0, vi 2]), (42, vi 8), (44, .agg #[vi c.undo, vi 1, vi 1000])] (by kernel_rfl) ?_
    refine g_op (by kernel_rfl) (ot_new #[vi 0, vi 0, vi 0] 152 (by kernel_rfl) ?_)
    intro b2
    refine g_op (by kernel_rfl) (ot_store 0 b2 0 [vi c.undo, vi 1, vi 1000] (by kernel_rfl) (by kernel_rfl) ?_)
    refine g_adv 4 [.o 3378 1, .c 3379] 2 [(4, pt b2 0), (41, .agg #[vi c.regions, vi 1, vi 8, vi c.objects, vi 1, vi 8, vi c.stripes, vi 1, vi 8, vi c.width, vi 1, vi 8, vi c.threads, vi 1, vi 64, vi c.slots, vi 0, vi 48, vi c.regs, vi 1, vi 8, vi c.locks, vi 1, vi 4096, vi c.undo, vi 1, vi 1000, vi c.escalate, vi 0, vi 64, vi c.tickets, vi 1, vi 10000, vi c.policy, vi 0, vi 2]), (42, vi 8), (45, pt b2 0)] (by kernel_rfl) ?_
    refine g_op (by kernel_rfl) (ot_load 0 b2 0 (vi c.undo) (by kernel_rfl) (by kernel_rfl) ?_)
    refine g_adv 1 [.o 3378 3] 1 [(4, pt b2 0), (41, .agg #[vi c.regions, vi 1, vi 8, vi c.objects, vi 1, vi 8, vi c.stripes, vi 1, vi 8, vi c.width, vi 1, vi 8, vi c.threads, vi 1, vi 64, vi c.slots, vi 0, vi 48, vi c.regs, vi 1, vi 8, vi c.locks, vi 1, vi 4096, vi c.undo, vi 1, vi 1000, vi c.escalate, vi 0, vi 64, vi c.tickets, vi 1, vi 10000, vi c.policy, vi 0, vi 2]), (42, vi 8), (46, vi c.undo), (47, pt b2 1)] (by kernel_rfl) ?_
    refine g_op (by kernel_rfl) (ot_load 0 b2 1 (vi 1) (by kernel_rfl) (by kernel_rfl) ?_)
    refine g_adv 2 [.o 3378 6] 1 [(4, pt b2 0), (41, .agg #[vi c.regions, vi 1, vi 8, vi c.objects, vi 1, vi 8, vi c.stripes, vi 1, vi 8, vi c.width, vi 1, vi 8, vi c.threads, vi 1, vi 64, vi c.slots, vi 0, vi 48, vi c.regs, vi 1, vi 8, vi c.locks, vi 1, vi 4096, vi c.undo, vi 1, vi 1000, vi c.escalate, vi 0, vi 64, vi c.tickets, vi 1, vi 10000, vi c.policy, vi 0, vi 2]), (42, vi 8), (50, vb (decide (c.undo < 1)))] (by kernel_rfl) ?_
    refine g_bool 50 (decide (c.undo < 1)) (by kernel_rfl) (fun h1 => ?_) (fun h1 => ?_)
    · have h1p : c.undo < 1 := of_decide_eq_true h1
      refine g_adv 13 [] 7 [(2, vi 1)] (by kernel_rfl) ?_
      refine g_post () [2] [vi 1] (.tmp (by kernel_rfl) .nil) (by first | (simp [resV, check, Conf.ok, Conf.bounds, inB] at hi1_1 ⊢; omega) | (simp [Conf.bounds] at hi1_1; simp [resV, check, Conf.ok, Conf.bounds, hi1_1])) (by kernel_rfl)
    · have h1p : ¬ (c.undo < 1) := of_decide_eq_false h1
      refine g_adv 1 [.o 3378 7] 1 [(4, pt b2 0), (41, .agg #[vi c.regions, vi 1, vi 8, vi c.objects, vi 1, vi 8, vi c.stripes, vi 1, vi 8, vi c.width, vi 1, vi 8, vi c.threads, vi 1, vi 64, vi c.slots, vi 0, vi 48, vi c.regs, vi 1, vi 8, vi c.locks, vi 1, vi 4096, vi c.undo, vi 1, vi 1000, vi c.escalate, vi 0, vi 64, vi c.tickets, vi 1, vi 10000, vi c.policy, vi 0, vi 2]), (42, vi 8), (50, vb false), (51, pt b2 0)] (by kernel_rfl) ?_
      refine g_op (by kernel_rfl) (ot_load 0 b2 0 (vi c.undo) (by kernel_rfl) (by kernel_rfl) ?_)
      refine g_adv 1 [.o 3378 9] 1 [(41, .agg #[vi c.regions, vi 1, vi 8, vi c.objects, vi 1, vi 8, vi c.stripes, vi 1, vi 8, vi c.width, vi 1, vi 8, vi c.threads, vi 1, vi 64, vi c.slots, vi 0, vi 48, vi c.regs, vi 1, vi 8, vi c.locks, vi 1, vi 4096, vi c.undo, vi 1, vi 1000, vi c.escalate, vi 0, vi 64, vi c.tickets, vi 1, vi 10000, vi c.policy, vi 0, vi 2]), (42, vi 8), (50, vb false), (52, vi c.undo), (53, pt b2 2)] (by kernel_rfl) ?_
      refine g_op (by kernel_rfl) (ot_load 0 b2 2 (vi 1000) (by kernel_rfl) (by kernel_rfl) ?_)
      refine g_adv 3 [] 1 [(41, .agg #[vi c.regions, vi 1, vi 8, vi c.objects, vi 1, vi 8, vi c.stripes, vi 1, vi 8, vi c.width, vi 1, vi 8, vi c.threads, vi 1, vi 64, vi c.slots, vi 0, vi 48, vi c.regs, vi 1, vi 8, vi c.locks, vi 1, vi 4096, vi c.undo, vi 1, vi 1000, vi c.escalate, vi 0, vi 64, vi c.tickets, vi 1, vi 10000, vi c.policy, vi 0, vi 2]), (42, vi 8), (56, vb (decide (c.undo > 1000)))] (by kernel_rfl) ?_
      refine g_cond (decide (c.undo > 1000)) (by kernel_rfl) (fun h2 => ?_) (fun h2 => ?_)
      · have h2p : c.undo > 1000 := of_decide_eq_true h2
        refine g_adv 5 [] 6 [(2, vi 1)] (by kernel_rfl) ?_
        refine g_post () [2] [vi 1] (.tmp (by kernel_rfl) .nil) (by first | (simp [resV, check, Conf.ok, Conf.bounds, inB] at hi1_1 ⊢; omega) | (simp [Conf.bounds] at hi1_1; simp [resV, check, Conf.ok, Conf.bounds, hi1_1])) (by kernel_rfl)
      · have h2p : ¬ (c.undo > 1000) := of_decide_eq_false h2
        refine g_adv 6 [] 3 [(41, .agg #[vi c.regions, vi 1, vi 8, vi c.objects, vi 1, vi 8, vi c.stripes, vi 1, vi 8, vi c.width, vi 1, vi 8, vi c.threads, vi 1, vi 64, vi c.slots, vi 0, vi 48, vi c.regs, vi 1, vi 8, vi c.locks, vi 1, vi 4096, vi c.undo, vi 1, vi 1000, vi c.escalate, vi 0, vi 64, vi c.tickets, vi 1, vi 10000, vi c.policy, vi 0, vi 2]), (42, vi 9)] (by kernel_rfl) ?_
        refine g_round ⟨9, by exact ⟨by omega, take_all_step hi1_1 rfl (by simp [inB]; omega)⟩⟩ [1, 1] (by first | omega | (simp; done) | (simp; omega)) (by kernel_rfl) (by kernel_rfl)
  · refine g_adv 12 [.o 1688 1, .c 1689, .b 1, .c 423] 1 [(41, .agg #[vi c.regions, vi 1, vi 8, vi c.objects, vi 1, vi 8, vi c.stripes, vi 1, vi 8, vi c.width, vi 1, vi 8, vi c.threads, vi 1, vi 64, vi c.slots, vi 0, vi 48, vi c.regs, vi 1, vi 8, vi c.locks, vi 1, vi 4096, vi c.undo, vi 1, vi 1000, vi c.escalate, vi 0, vi 64, vi c.tickets, vi 1, vi 10000, vi c.policy, vi 0, vi 2]), (42, vi 9), (44, .agg #[vi c.escalate, vi 0, vi 64])] (by kernel_rfl) ?_
    refine g_op (by kernel_rfl) (ot_new #[vi 0, vi 0, vi 0] 152 (by kernel_rfl) ?_)
    intro b2
    refine g_op (by kernel_rfl) (ot_store 0 b2 0 [vi c.escalate, vi 0, vi 64] (by kernel_rfl) (by kernel_rfl) ?_)
    refine g_adv 4 [.o 3378 1, .c 3379] 2 [(4, pt b2 0), (41, .agg #[vi c.regions, vi 1, vi 8, vi c.objects, vi 1, vi 8, vi c.stripes, vi 1, vi 8, vi c.width, vi 1, vi 8, vi c.threads, vi 1, vi 64, vi c.slots, vi 0, vi 48, vi c.regs, vi 1, vi 8, vi c.locks, vi 1, vi 4096, vi c.undo, vi 1, vi 1000, vi c.escalate, vi 0, vi 64, vi c.tickets, vi 1, vi 10000, vi c.policy, vi 0, vi 2]), (42, vi 9), (45, pt b2 0)] (by kernel_rfl) ?_
    refine g_op (by kernel_rfl) (ot_load 0 b2 0 (vi c.escalate) (by kernel_rfl) (by kernel_rfl) ?_)
    refine g_adv 1 [.o 3378 3] 1 [(4, pt b2 0), (41, .agg #[vi c.regions, vi 1, vi 8, vi c.objects, vi 1, vi 8, vi c.stripes, vi 1, vi 8, vi c.width, vi 1, vi 8, vi c.threads, vi 1, vi 64, vi c.slots, vi 0, vi 48, vi c.regs, vi 1, vi 8, vi c.locks, vi 1, vi 4096, vi c.undo, vi 1, vi 1000, vi c.escalate, vi 0, vi 64, vi c.tickets, vi 1, vi 10000, vi c.policy, vi 0, vi 2]), (42, vi 9), (46, vi c.escalate), (47, pt b2 1)] (by kernel_rfl) ?_
    refine g_op (by kernel_rfl) (ot_load 0 b2 1 (vi 0) (by kernel_rfl) (by kernel_rfl) ?_)
    refine g_adv 2 [.o 3378 6] 1 [(4, pt b2 0), (41, .agg #[vi c.regions, vi 1, vi 8, vi c.objects, vi 1, vi 8, vi c.stripes, vi 1, vi 8, vi c.width, vi 1, vi 8, vi c.threads, vi 1, vi 64, vi c.slots, vi 0, vi 48, vi c.regs, vi 1, vi 8, vi c.locks, vi 1, vi 4096, vi c.undo, vi 1, vi 1000, vi c.escalate, vi 0, vi 64, vi c.tickets, vi 1, vi 10000, vi c.policy, vi 0, vi 2]), (42, vi 9), (50, vb (decide (c.escalate < 0)))] (by kernel_rfl) ?_
    refine g_bool 50 (decide (c.escalate < 0)) (by kernel_rfl) (fun h1 => ?_) (fun h1 => ?_)
    · have h1p : c.escalate < 0 := of_decide_eq_true h1
      refine g_adv 13 [] 7 [(2, vi 1)] (by kernel_rfl) ?_
      refine g_post () [2] [vi 1] (.tmp (by kernel_rfl) .nil) (by first | (simp [resV, check, Conf.ok, Conf.bounds, inB] at hi1_1 ⊢; omega) | (simp [Conf.bounds] at hi1_1; simp [resV, check, Conf.ok, Conf.bounds, hi1_1])) (by kernel_rfl)
    · have h1p : ¬ (c.escalate < 0) := of_decide_eq_false h1
      refine g_adv 1 [.o 3378 7] 1 [(4, pt b2 0), (41, .agg #[vi c.regions, vi 1, vi 8, vi c.objects, vi 1, vi 8, vi c.stripes, vi 1, vi 8, vi c.width, vi 1, vi 8, vi c.threads, vi 1, vi 64, vi c.slots, vi 0, vi 48, vi c.regs, vi 1, vi 8, vi c.locks, vi 1, vi 4096, vi c.undo, vi 1, vi 1000, vi c.escalate, vi 0, vi 64, vi c.tickets, vi 1, vi 10000, vi c.policy, vi 0, vi 2]), (42, vi 9), (50, vb false), (51, pt b2 0)] (by kernel_rfl) ?_
      refine g_op (by kernel_rfl) (ot_load 0 b2 0 (vi c.escalate) (by kernel_rfl) (by kernel_rfl) ?_)
      refine g_adv 1 [.o 3378 9] 1 [(41, .agg #[vi c.regions, vi 1, vi 8, vi c.objects, vi 1, vi 8, vi c.stripes, vi 1, vi 8, vi c.width, vi 1, vi 8, vi c.threads, vi 1, vi 64, vi c.slots, vi 0, vi 48, vi c.regs, vi 1, vi 8, vi c.locks, vi 1, vi 4096, vi c.undo, vi 1, vi 1000, vi c.escalate, vi 0, vi 64, vi c.tickets, vi 1, vi 10000, vi c.policy, vi 0, vi 2]), (42, vi 9), (50, vb false), (52, vi c.escalate), (53, pt b2 2)] (by kernel_rfl) ?_
      refine g_op (by kernel_rfl) (ot_load 0 b2 2 (vi 64) (by kernel_rfl) (by kernel_rfl) ?_)
      refine g_adv 3 [] 1 [(41, .agg #[vi c.regions, vi 1, vi 8, vi c.objects, vi 1, vi 8, vi c.stripes, vi 1, vi 8, vi c.width, vi 1, vi 8, vi c.threads, vi 1, vi 64, vi c.slots, vi 0, vi 48, vi c.regs, vi 1, vi 8, vi c.locks, vi 1, vi 4096, vi c.undo, vi 1, vi 1000, vi c.escalate, vi 0, vi 64, vi c.tickets, vi 1, vi 10000, vi c.policy, vi 0, vi 2]), (42, vi 9), (56, vb (decide (c.escalate > 64)))] (by kernel_rfl) ?_
      refine g_cond (decide (c.escalate > 64)) (by kernel_rfl) (fun h2 => ?_) (fun h2 => ?_)
      · have h2p : c.escalate > 64 := of_decide_eq_true h2
        refine g_adv 5 [] 6 [(2, vi 1)] (by kernel_rfl) ?_
        refine g_post () [2] [vi 1] (.tmp (by kernel_rfl) .nil) (by first | (simp [resV, check, Conf.ok, Conf.bounds, inB] at hi1_1 ⊢; omega) | (simp [Conf.bounds] at hi1_1; simp [resV, check, Conf.ok, Conf.bounds, hi1_1])) (by kernel_rfl)
      · have h2p : ¬ (c.escalate > 64) := of_decide_eq_false h2
        refine g_adv 6 [] 3 [(41, .agg #[vi c.regions, vi 1, vi 8, vi c.objects, vi 1, vi 8, vi c.stripes, vi 1, vi 8, vi c.width, vi 1, vi 8, vi c.threads, vi 1, vi 64, vi c.slots, vi 0, vi 48, vi c.regs, vi 1, vi 8, vi c.locks, vi 1, vi 4096, vi c.undo, vi 1, vi 1000, vi c.escalate, vi 0, vi 64, vi c.tickets, vi 1, vi 10000, vi c.policy, vi 0, vi 2]), (42, vi 10)] (by kernel_rfl) ?_
        refine g_round ⟨10, by exact ⟨by omega, take_all_step hi1_1 rfl (by simp [inB]; omega)⟩⟩ [1, 1] (by first | omega | (simp; done) | (simp; omega)) (by kernel_rfl) (by kernel_rfl)
  · refine g_adv 12 [.o 1688 1, .c 1689, .b 1, .c 423] 1 [(41, .agg #[vi c.regions, vi 1, vi 8, vi c.objects, vi 1, vi 8, vi c.stripes, vi 1, vi 8, vi c.width, vi 1, vi 8, vi c.threads, vi 1, vi 64, vi c.slots, vi 0, vi 48, vi c.regs, vi 1, vi 8, vi c.locks, vi 1, vi 4096, vi c.undo, vi 1, vi 1000, vi c.escalate, vi 0, vi 64, vi c.tickets, vi 1, vi 10000, vi c.policy, vi 0, vi 2]), (42, vi 10), (44, .agg #[vi c.tickets, vi 1, vi 10000])] (by kernel_rfl) ?_
    refine g_op (by kernel_rfl) (ot_new #[vi 0, vi 0, vi 0] 152 (by kernel_rfl) ?_)
    intro b2
    refine g_op (by kernel_rfl) (ot_store 0 b2 0 [vi c.tickets, vi 1, vi 10000] (by kernel_rfl) (by kernel_rfl) ?_)
    refine g_adv 4 [.o 3378 1, .c 3379] 2 [(4, pt b2 0), (41, .agg #[vi c.regions, vi 1, vi 8, vi c.objects, vi 1, vi 8, vi c.stripes, vi 1, vi 8, vi c.width, vi 1, vi 8, vi c.threads, vi 1, vi 64, vi c.slots, vi 0, vi 48, vi c.regs, vi 1, vi 8, vi c.locks, vi 1, vi 4096, vi c.undo, vi 1, vi 1000, vi c.escalate, vi 0, vi 64, vi c.tickets, vi 1, vi 10000, vi c.policy, vi 0, vi 2]), (42, vi 10), (45, pt b2 0)] (by kernel_rfl) ?_
    refine g_op (by kernel_rfl) (ot_load 0 b2 0 (vi c.tickets) (by kernel_rfl) (by kernel_rfl) ?_)
    refine g_adv 1 [.o 3378 3] 1 [(4, pt b2 0), (41, .agg #[vi c.regions, vi 1, vi 8, vi c.objects, vi 1, vi 8, vi c.stripes, vi 1, vi 8, vi c.width, vi 1, vi 8, vi c.threads, vi 1, vi 64, vi c.slots, vi 0, vi 48, vi c.regs, vi 1, vi 8, vi c.locks, vi 1, vi 4096, vi c.undo, vi 1, vi 1000, vi c.escalate, vi 0, vi 64, vi c.tickets, vi 1, vi 10000, vi c.policy, vi 0, vi 2]), (42, vi 10), (46, vi c.tickets), (47, pt b2 1)] (by kernel_rfl) ?_
    refine g_op (by kernel_rfl) (ot_load 0 b2 1 (vi 1) (by kernel_rfl) (by kernel_rfl) ?_)
    refine g_adv 2 [.o 3378 6] 1 [(4, pt b2 0), (41, .agg #[vi c.regions, vi 1, vi 8, vi c.objects, vi 1, vi 8, vi c.stripes, vi 1, vi 8, vi c.width, vi 1, vi 8, vi c.threads, vi 1, vi 64, vi c.slots, vi 0, vi 48, vi c.regs, vi 1, vi 8, vi c.locks, vi 1, vi 4096, vi c.undo, vi 1, vi 1000, vi c.escalate, vi 0, vi 64, vi c.tickets, vi 1, vi 10000, vi c.policy, vi 0, vi 2]), (42, vi 10), (50, vb (decide (c.tickets < 1)))] (by kernel_rfl) ?_
    refine g_bool 50 (decide (c.tickets < 1)) (by kernel_rfl) (fun h1 => ?_) (fun h1 => ?_)
    · have h1p : c.tickets < 1 := of_decide_eq_true h1
      refine g_adv 13 [] 7 [(2, vi 1)] (by kernel_rfl) ?_
      refine g_post () [2] [vi 1] (.tmp (by kernel_rfl) .nil) (by first | (simp [resV, check, Conf.ok, Conf.bounds, inB] at hi1_1 ⊢; omega) | (simp [Conf.bounds] at hi1_1; simp [resV, check, Conf.ok, Conf.bounds, hi1_1])) (by kernel_rfl)
    · have h1p : ¬ (c.tickets < 1) := of_decide_eq_false h1
      refine g_adv 1 [.o 3378 7] 1 [(4, pt b2 0), (41, .agg #[vi c.regions, vi 1, vi 8, vi c.objects, vi 1, vi 8, vi c.stripes, vi 1, vi 8, vi c.width, vi 1, vi 8, vi c.threads, vi 1, vi 64, vi c.slots, vi 0, vi 48, vi c.regs, vi 1, vi 8, vi c.locks, vi 1, vi 4096, vi c.undo, vi 1, vi 1000, vi c.escalate, vi 0, vi 64, vi c.tickets, vi 1, vi 10000, vi c.policy, vi 0, vi 2]), (42, vi 10), (50, vb false), (51, pt b2 0)] (by kernel_rfl) ?_
      refine g_op (by kernel_rfl) (ot_load 0 b2 0 (vi c.tickets) (by kernel_rfl) (by kernel_rfl) ?_)
      refine g_adv 1 [.o 3378 9] 1 [(41, .agg #[vi c.regions, vi 1, vi 8, vi c.objects, vi 1, vi 8, vi c.stripes, vi 1, vi 8, vi c.width, vi 1, vi 8, vi c.threads, vi 1, vi 64, vi c.slots, vi 0, vi 48, vi c.regs, vi 1, vi 8, vi c.locks, vi 1, vi 4096, vi c.undo, vi 1, vi 1000, vi c.escalate, vi 0, vi 64, vi c.tickets, vi 1, vi 10000, vi c.policy, vi 0, vi 2]), (42, vi 10), (50, vb false), (52, vi c.tickets), (53, pt b2 2)] (by kernel_rfl) ?_
      refine g_op (by kernel_rfl) (ot_load 0 b2 2 (vi 10000) (by kernel_rfl) (by kernel_rfl) ?_)
      refine g_adv 3 [] 1 [(41, .agg #[vi c.regions, vi 1, vi 8, vi c.objects, vi 1, vi 8, vi c.stripes, vi 1, vi 8, vi c.width, vi 1, vi 8, vi c.threads, vi 1, vi 64, vi c.slots, vi 0, vi 48, vi c.regs, vi 1, vi 8, vi c.locks, vi 1, vi 4096, vi c.undo, vi 1, vi 1000, vi c.escalate, vi 0, vi 64, vi c.tickets, vi 1, vi 10000, vi c.policy, vi 0, vi 2]), (42, vi 10), (56, vb (decide (c.tickets > 10000)))] (by kernel_rfl) ?_
      refine g_cond (decide (c.tickets > 10000)) (by kernel_rfl) (fun h2 => ?_) (fun h2 => ?_)
      · have h2p : c.tickets > 10000 := of_decide_eq_true h2
        refine g_adv 5 [] 6 [(2, vi 1)] (by kernel_rfl) ?_
        refine g_post () [2] [vi 1] (.tmp (by kernel_rfl) .nil) (by first | (simp [resV, check, Conf.ok, Conf.bounds, inB] at hi1_1 ⊢; omega) | (simp [Conf.bounds] at hi1_1; simp [resV, check, Conf.ok, Conf.bounds, hi1_1])) (by kernel_rfl)
      · have h2p : ¬ (c.tickets > 10000) := of_decide_eq_false h2
        refine g_adv 6 [] 3 [(41, .agg #[vi c.regions, vi 1, vi 8, vi c.objects, vi 1, vi 8, vi c.stripes, vi 1, vi 8, vi c.width, vi 1, vi 8, vi c.threads, vi 1, vi 64, vi c.slots, vi 0, vi 48, vi c.regs, vi 1, vi 8, vi c.locks, vi 1, vi 4096, vi c.undo, vi 1, vi 1000, vi c.escalate, vi 0, vi 64, vi c.tickets, vi 1, vi 10000, vi c.policy, vi 0, vi 2]), (42, vi 11)] (by kernel_rfl) ?_
        refine g_round ⟨11, by exact ⟨by omega, take_all_step hi1_1 rfl (by simp [inB]; omega)⟩⟩ [1, 1] (by first | omega | (simp; done) | (simp; omega)) (by kernel_rfl) (by kernel_rfl)
  · refine g_adv 12 [.o 1688 1, .c 1689, .b 1, .c 423] 1 [(41, .agg #[vi c.regions, vi 1, vi 8, vi c.objects, vi 1, vi 8, vi c.stripes, vi 1, vi 8, vi c.width, vi 1, vi 8, vi c.threads, vi 1, vi 64, vi c.slots, vi 0, vi 48, vi c.regs, vi 1, vi 8, vi c.locks, vi 1, vi 4096, vi c.undo, vi 1, vi 1000, vi c.escalate, vi 0, vi 64, vi c.tickets, vi 1, vi 10000, vi c.policy, vi 0, vi 2]), (42, vi 11), (44, .agg #[vi c.policy, vi 0, vi 2])] (by kernel_rfl) ?_
    refine g_op (by kernel_rfl) (ot_new #[vi 0, vi 0, vi 0] 152 (by kernel_rfl) ?_)
    intro b2
    refine g_op (by kernel_rfl) (ot_store 0 b2 0 [vi c.policy, vi 0, vi 2] (by kernel_rfl) (by kernel_rfl) ?_)
    refine g_adv 4 [.o 3378 1, .c 3379] 2 [(4, pt b2 0), (41, .agg #[vi c.regions, vi 1, vi 8, vi c.objects, vi 1, vi 8, vi c.stripes, vi 1, vi 8, vi c.width, vi 1, vi 8, vi c.threads, vi 1, vi 64, vi c.slots, vi 0, vi 48, vi c.regs, vi 1, vi 8, vi c.locks, vi 1, vi 4096, vi c.undo, vi 1, vi 1000, vi c.escalate, vi 0, vi 64, vi c.tickets, vi 1, vi 10000, vi c.policy, vi 0, vi 2]), (42, vi 11), (45, pt b2 0)] (by kernel_rfl) ?_
    refine g_op (by kernel_rfl) (ot_load 0 b2 0 (vi c.policy) (by kernel_rfl) (by kernel_rfl) ?_)
    refine g_adv 1 [.o 3378 3] 1 [(4, pt b2 0), (41, .agg #[vi c.regions, vi 1, vi 8, vi c.objects, vi 1, vi 8, vi c.stripes, vi 1, vi 8, vi c.width, vi 1, vi 8, vi c.threads, vi 1, vi 64, vi c.slots, vi 0, vi 48, vi c.regs, vi 1, vi 8, vi c.locks, vi 1, vi 4096, vi c.undo, vi 1, vi 1000, vi c.escalate, vi 0, vi 64, vi c.tickets, vi 1, vi 10000, vi c.policy, vi 0, vi 2]), (42, vi 11), (46, vi c.policy), (47, pt b2 1)] (by kernel_rfl) ?_
    refine g_op (by kernel_rfl) (ot_load 0 b2 1 (vi 0) (by kernel_rfl) (by kernel_rfl) ?_)
    refine g_adv 2 [.o 3378 6] 1 [(4, pt b2 0), (41, .agg #[vi c.regions, vi 1, vi 8, vi c.objects, vi 1, vi 8, vi c.stripes, vi 1, vi 8, vi c.width, vi 1, vi 8, vi c.threads, vi 1, vi 64, vi c.slots, vi 0, vi 48, vi c.regs, vi 1, vi 8, vi c.locks, vi 1, vi 4096, vi c.undo, vi 1, vi 1000, vi c.escalate, vi 0, vi 64, vi c.tickets, vi 1, vi 10000, vi c.policy, vi 0, vi 2]), (42, vi 11), (50, vb (decide (c.policy < 0)))] (by kernel_rfl) ?_
    refine g_bool 50 (decide (c.policy < 0)) (by kernel_rfl) (fun h1 => ?_) (fun h1 => ?_)
    · have h1p : c.policy < 0 := of_decide_eq_true h1
      refine g_adv 13 [] 7 [(2, vi 1)] (by kernel_rfl) ?_
      refine g_post () [2] [vi 1] (.tmp (by kernel_rfl) .nil) (by first | (simp [resV, check, Conf.ok, Conf.bounds, inB] at hi1_1 ⊢; omega) | (simp [Conf.bounds] at hi1_1; simp [resV, check, Conf.ok, Conf.bounds, hi1_1])) (by kernel_rfl)
    · have h1p : ¬ (c.policy < 0) := of_decide_eq_false h1
      refine g_adv 1 [.o 3378 7] 1 [(4, pt b2 0), (41, .agg #[vi c.regions, vi 1, vi 8, vi c.objects, vi 1, vi 8, vi c.stripes, vi 1, vi 8, vi c.width, vi 1, vi 8, vi c.threads, vi 1, vi 64, vi c.slots, vi 0, vi 48, vi c.regs, vi 1, vi 8, vi c.locks, vi 1, vi 4096, vi c.undo, vi 1, vi 1000, vi c.escalate, vi 0, vi 64, vi c.tickets, vi 1, vi 10000, vi c.policy, vi 0, vi 2]), (42, vi 11), (50, vb false), (51, pt b2 0)] (by kernel_rfl) ?_
      refine g_op (by kernel_rfl) (ot_load 0 b2 0 (vi c.policy) (by kernel_rfl) (by kernel_rfl) ?_)
      refine g_adv 1 [.o 3378 9] 1 [(41, .agg #[vi c.regions, vi 1, vi 8, vi c.objects, vi 1, vi 8, vi c.stripes, vi 1, vi 8, vi c.width, vi 1, vi 8, vi c.threads, vi 1, vi 64, vi c.slots, vi 0, vi 48, vi c.regs, vi 1, vi 8, vi c.locks, vi 1, vi 4096, vi c.undo, vi 1, vi 1000, vi c.escalate, vi 0, vi 64, vi c.tickets, vi 1, vi 10000, vi c.policy, vi 0, vi 2]), (42, vi 11), (50, vb false), (52, vi c.policy), (53, pt b2 2)] (by kernel_rfl) ?_
      refine g_op (by kernel_rfl) (ot_load 0 b2 2 (vi 2) (by kernel_rfl) (by kernel_rfl) ?_)
      refine g_adv 3 [] 1 [(41, .agg #[vi c.regions, vi 1, vi 8, vi c.objects, vi 1, vi 8, vi c.stripes, vi 1, vi 8, vi c.width, vi 1, vi 8, vi c.threads, vi 1, vi 64, vi c.slots, vi 0, vi 48, vi c.regs, vi 1, vi 8, vi c.locks, vi 1, vi 4096, vi c.undo, vi 1, vi 1000, vi c.escalate, vi 0, vi 64, vi c.tickets, vi 1, vi 10000, vi c.policy, vi 0, vi 2]), (42, vi 11), (56, vb (decide (c.policy > 2)))] (by kernel_rfl) ?_
      refine g_cond (decide (c.policy > 2)) (by kernel_rfl) (fun h2 => ?_) (fun h2 => ?_)
      · have h2p : c.policy > 2 := of_decide_eq_true h2
        refine g_adv 5 [] 6 [(2, vi 1)] (by kernel_rfl) ?_
        refine g_post () [2] [vi 1] (.tmp (by kernel_rfl) .nil) (by first | (simp [resV, check, Conf.ok, Conf.bounds, inB] at hi1_1 ⊢; omega) | (simp [Conf.bounds] at hi1_1; simp [resV, check, Conf.ok, Conf.bounds, hi1_1])) (by kernel_rfl)
      · have h2p : ¬ (c.policy > 2) := of_decide_eq_false h2
        refine g_adv 6 [] 3 [(41, .agg #[vi c.regions, vi 1, vi 8, vi c.objects, vi 1, vi 8, vi c.stripes, vi 1, vi 8, vi c.width, vi 1, vi 8, vi c.threads, vi 1, vi 64, vi c.slots, vi 0, vi 48, vi c.regs, vi 1, vi 8, vi c.locks, vi 1, vi 4096, vi c.undo, vi 1, vi 1000, vi c.escalate, vi 0, vi 64, vi c.tickets, vi 1, vi 10000, vi c.policy, vi 0, vi 2]), (42, vi 12)] (by kernel_rfl) ?_
        refine g_round ⟨12, by exact ⟨by omega, take_all_step hi1_1 rfl (by simp [inB]; omega)⟩⟩ [1, 1] (by first | omega | (simp; done) | (simp; omega)) (by kernel_rfl) (by kernel_rfl)
  · refine g_adv 12 [] 4 [(2, vi 0)] (by kernel_rfl) ?_
    refine g_post () [1] [vi 0] (.tmp (by kernel_rfl) .nil) (by first | (simp [resV, check, Conf.ok, Conf.bounds, inB] at hi1_1 ⊢; omega) | (simp [Conf.bounds] at hi1_1; simp [resV, check, Conf.ok, Conf.bounds, hi1_1])) (by kernel_rfl)

theorem c_shape_counts (c : Conf) : Ct Tryz.prog 93 [.agg #[vi c.regions, vi c.objects, vi c.stripes, vi c.width, vi c.threads, vi c.slots, vi c.regs, vi c.locks, vi c.undo, vi c.escalate, vi c.tickets, vi c.policy]] [] (fun _ : Unit => .tuple #[vi (countR c), vi (countO c), vi (countS c)]) (fun _ => []) := by
  refine ct_intro Tryz.f93 21 Tryz.func93 rfl rfl rfl (fun E R => ?_)
  refine g_adv 2 [.o 2 0, .c 3] 1 [(0, .agg #[vi c.regions, vi c.objects, vi c.stripes, vi c.width, vi c.threads, vi c.slots, vi c.regs, vi c.locks, vi c.undo, vi c.escalate, vi c.tickets, vi c.policy])] (by kernel_rfl) ?_
  refine g_op (by kernel_rfl) (ot_new #[vi c.regions, vi c.objects, vi c.stripes, vi c.width, vi c.threads, vi c.slots, vi c.regs, vi c.locks, vi c.undo, vi c.escalate, vi c.tickets, vi c.policy] 25 (by kernel_rfl) ?_)
  intro b1
  refine g_adv 7 [.o 12 0, .c 13, .c 7] 2 [(1, pt b1 0)] (by kernel_rfl) ?_
  refine g_op (by kernel_rfl) (ot_loadA 0 b1 0 [vi c.regions, vi c.objects, vi c.stripes, vi c.width, vi c.threads, vi c.slots, vi c.regs, vi c.locks, vi c.undo, vi c.escalate, vi c.tickets, vi c.policy] (by kernel_rfl) (by kernel_rfl) ?_)
  refine g_op (by kernel_rfl) (ot_call [] (c_shape_Check c) (by kernel_rfl) (by kernel_rfl) ?_)
  intro _
  refine g_adv 2 [] 1 [(1, pt b1 0), (8, vb (check c != 0))] (by kernel_rfl) ?_
  refine g_cond (check c != 0) (by kernel_rfl) (fun h1 => ?_) (fun h1 => ?_)
  · have h1p : check c ≠ 0 := bne_iff_ne.1 h1
    have ho := check_bad h1p
    refine g_adv 7 [] 2 [(2, vi 0), (3, vi 0), (4, vi 0)] (by kernel_rfl) ?_
    refine g_post () [1] [vi 0, vi 0, vi 0] (.tmp (by kernel_rfl) (.tmp (by kernel_rfl) (.tmp (by kernel_rfl) .nil))) (by simp [resV, countR, countO, countS, ho]) (by kernel_rfl)
  · have h1p : check c = 0 := (by simpa using h1)
    have hk := check_ok h1p; have hp := hk.prods; have hr := hk.regions; have ho := (Conf.ok_iff c).2 hk
    refine g_adv 4 [.o 14 1, .c 15] 2 [(1, pt b1 0), (9, pt b1 0)] (by kernel_rfl) ?_
    refine g_op (by kernel_rfl) (ot_load 0 b1 0 (vi c.regions) (by kernel_rfl) (by kernel_rfl) ?_)
    refine g_adv 1 [.o 14 3] 1 [(1, pt b1 0), (10, vi c.regions), (11, pt b1 1)] (by kernel_rfl) ?_
    refine g_op (by kernel_rfl) (ot_load 0 b1 1 (vi c.objects) (by kernel_rfl) (by kernel_rfl) ?_)
    refine g_adv 1 [.o 14 5] 1 [(1, pt b1 0), (13, vi (wI (c.regions * c.objects)))] (by kernel_rfl) ?_
    refine g_val 13 (vi (wI (c.regions * c.objects))) (vi (c.regions * c.objects)) (wI_eq (by omega) (by omega) (by omega)) (by kernel_rfl) ?_
    refine g_adv 3 [.c 30, .c 31] 2 [(1, pt b1 0), (5, vi (c.regions * c.objects))] (by kernel_rfl) ?_
    refine d_start (by kernel_rfl) (by kernel_rfl) ?_
    refine d_end [(0, pt b1 0), (1, vi c.regions), (2, vi (c.regions * c.objects)), (3, vi (c.regions * c.objects)), (4, pt b1 2), (5, vi c.stripes), (6, vi ((c.regions * c.objects) * c.stripes)), (7, vi c.regions), (8, vi (c.regions * c.objects)), (9, vi ((c.regions * c.objects) * c.stripes))] [(2, vi c.regions), (3, vi (c.regions * c.objects)), (4, vi ((c.regions * c.objects) * c.stripes))] (by kernel_rfl) (.plainN 1 (by kernel_rfl) (.one _ _ (evOK_loadC 0 b1 0 _ (by kernel_rfl) (by kernel_rfl)) (.plainN 3 (by kernel_rfl) (.one _ _ (evOK_loadC 0 b1 2 _ (by kernel_rfl) (by kernel_rfl)) (.one _ _ (evOK_eq (v := vi (wI ((c.regions * c.objects) * c.stripes))) (wI_eq (by omega) (by omega) (by omega)) (evOK_pure (by kernel_rfl))) (.plainN 3 (by kernel_rfl) .nil)))))) (by kernel_rfl) ?_
    refine g_adv 1 [] 1 [(2, vi c.regions), (3, vi (c.regions * c.objects)), (4, vi ((c.regions * c.objects) * c.stripes))] (by kernel_rfl) ?_
    refine g_post () [1] [vi c.regions, vi (c.regions * c.objects), vi ((c.regions * c.objects) * c.stripes)] (.tmp (by kernel_rfl) (.tmp (by kernel_rfl) (.tmp (by kernel_rfl) .nil))) (by simp [resV, countR, countO, countS, ho]) (by kernel_rfl)

theorem c_shape_Words (c : Conf) : Ct Tryz.prog 45 [.agg #[vi c.regions, vi c.objects, vi c.stripes, vi c.width, vi c.threads, vi c.slots, vi c.regs, vi c.locks, vi c.undo, vi c.escalate, vi c.tickets, vi c.policy]] [] (fun _ : Unit => vi (words c)) (fun _ => []) := by
  refine ct_intro Tryz.f45 16 Tryz.func45 rfl rfl rfl (fun E R => ?_)
  have hb := counts_bounds c
  refine g_adv 2 [.o 2 0, .c 3] 1 [(0, .agg #[vi c.regions, vi c.objects, vi c.stripes, vi c.width, vi c.threads, vi c.slots, vi c.regs, vi c.locks, vi c.undo, vi c.escalate, vi c.tickets, vi c.policy])] (by kernel_rfl) ?_
  refine g_op (by kernel_rfl) (ot_new #[vi c.regions, vi c.objects, vi c.stripes, vi c.width, vi c.threads, vi c.slots, vi c.regs, vi c.locks, vi c.undo, vi c.escalate, vi c.tickets, vi c.policy] 25 (by kernel_rfl) ?_)
  intro b1
  refine g_adv 4 [.o 6 0, .c 7] 2 [(1, pt b1 0)] (by kernel_rfl) ?_
  refine g_op (by kernel_rfl) (ot_loadA 0 b1 0 [vi c.regions, vi c.objects, vi c.stripes, vi c.width, vi c.threads, vi c.slots, vi c.regs, vi c.locks, vi c.undo, vi c.escalate, vi c.tickets, vi c.policy] (by kernel_rfl) (by kernel_rfl) ?_)
  refine g_op (by kernel_rfl) (ot_call [] (c_shape_counts c) (by kernel_rfl) (by kernel_rfl) ?_)
  intro _
  refine g_adv 12 [.o 14 2, .c 15] 2 [(12, vi (countS c)), (13, pt b1 3)] (by kernel_rfl) ?_
  refine g_op (by kernel_rfl) (ot_load 0 b1 3 (vi c.width) (by kernel_rfl) (by kernel_rfl) ?_)
  refine g_adv 1 [.o 14 4] 1 [(15, vi (wI ((countS c) * c.width)))] (by kernel_rfl) ?_
  refine g_val 15 (vi (wI ((countS c) * c.width))) (vi ((countS c) * c.width)) (wI_eq (by omega) (by omega) (by omega)) (by kernel_rfl) ?_
  refine g_adv 3 [] 2 [(2, vi ((countS c) * c.width))] (by kernel_rfl) ?_
  refine g_post () [1] [vi ((countS c) * c.width)] (.tmp (by kernel_rfl) .nil) (by rfl) (by kernel_rfl)

theorem c_shape_Nodes (c : Conf) : Ct Tryz.prog 49 [.agg #[vi c.regions, vi c.objects, vi c.stripes, vi c.width, vi c.threads, vi c.slots, vi c.regs, vi c.locks, vi c.undo, vi c.escalate, vi c.tickets, vi c.policy]] [] (fun _ : Unit => vi (nodes c)) (fun _ => []) := by
  refine ct_intro Tryz.f49 17 Tryz.func49 rfl rfl rfl (fun E R => ?_)
  have hb := counts_bounds c
  refine g_adv 2 [.o 2 0, .c 3] 1 [(0, .agg #[vi c.regions, vi c.objects, vi c.stripes, vi c.width, vi c.threads, vi c.slots, vi c.regs, vi c.locks, vi c.undo, vi c.escalate, vi c.tickets, vi c.policy])] (by kernel_rfl) ?_
  refine g_op (by kernel_rfl) (ot_new #[vi c.regions, vi c.objects, vi c.stripes, vi c.width, vi c.threads, vi c.slots, vi c.regs, vi c.locks, vi c.undo, vi c.escalate, vi c.tickets, vi c.policy] 25 (by kernel_rfl) ?_)
  intro b1
  refine g_adv 4 [.o 6 0, .c 7] 2 [(1, pt b1 0)] (by kernel_rfl) ?_
  refine g_op (by kernel_rfl) (ot_loadA 0 b1 0 [vi c.regions, vi c.objects, vi c.stripes, vi c.width, vi c.threads, vi c.slots, vi c.regs, vi c.locks, vi c.undo, vi c.escalate, vi c.tickets, vi c.policy] (by kernel_rfl) (by kernel_rfl) ?_)
  refine g_op (by kernel_rfl) (ot_call [] (c_shape_counts c) (by kernel_rfl) (by kernel_rfl) ?_)
  intro _
  refine g_adv 13 [.o 14 3, .c 15] 2 [(5, vi (countS c)), (14, vi (wI (countR c + (countO c))))] (by kernel_rfl) ?_
  refine g_val 14 (vi (wI (countR c + (countO c)))) (vi (countR c + (countO c))) (wI_eq (by omega) (by omega) (by omega)) (by kernel_rfl) ?_
  refine g_adv 2 [.o 14 5] 1 [(16, vi (wI (countR c + (countO c) + (countS c))))] (by kernel_rfl) ?_
  refine g_val 16 (vi (wI (countR c + (countO c) + (countS c)))) (vi (countR c + (countO c) + (countS c))) (wI_eq (by omega) (by omega) (by omega)) (by kernel_rfl) ?_
  refine g_adv 3 [] 2 [(2, vi (countR c + (countO c) + (countS c)))] (by kernel_rfl) ?_
  refine g_post () [1] [vi (countR c + (countO c) + (countS c))] (.tmp (by kernel_rfl) .nil) (by rfl) (by kernel_rfl)

theorem c_shape_Cells (c : Conf) : Ct Tryz.prog 47 [.agg #[vi c.regions, vi c.objects, vi c.stripes, vi c.width, vi c.threads, vi c.slots, vi c.regs, vi c.locks, vi c.undo, vi c.escalate, vi c.tickets, vi c.policy]] [] (fun _ : Unit => vi (cellsN c)) (fun _ => []) := by
  refine ct_intro Tryz.f47 19 Tryz.func47 rfl rfl rfl (fun E R => ?_)
  have hb := counts_bounds c
  refine g_adv 2 [.o 2 0, .c 3] 1 [(0, .agg #[vi c.regions, vi c.objects, vi c.stripes, vi c.width, vi c.threads, vi c.slots, vi c.regs, vi c.locks, vi c.undo, vi c.escalate, vi c.tickets, vi c.policy])] (by kernel_rfl) ?_
  refine g_op (by kernel_rfl) (ot_new #[vi c.regions, vi c.objects, vi c.stripes, vi c.width, vi c.threads, vi c.slots, vi c.regs, vi c.locks, vi c.undo, vi c.escalate, vi c.tickets, vi c.policy] 25 (by kernel_rfl) ?_)
  intro b1
  refine g_adv 4 [.o 6 0, .c 7] 2 [(1, pt b1 0)] (by kernel_rfl) ?_
  refine g_op (by kernel_rfl) (ot_loadA 0 b1 0 [vi c.regions, vi c.objects, vi c.stripes, vi c.width, vi c.threads, vi c.slots, vi c.regs, vi c.locks, vi c.undo, vi c.escalate, vi c.tickets, vi c.policy] (by kernel_rfl) (by kernel_rfl) ?_)
  refine g_op (by kernel_rfl) (ot_call [] (c_shape_counts c) (by kernel_rfl) (by kernel_rfl) ?_)
  intro _
  refine g_adv 12 [.o 14 2, .c 15] 2 [(5, vi (countS c)), (12, vi (countS c)), (13, pt b1 3)] (by kernel_rfl) ?_
  refine g_op (by kernel_rfl) (ot_load 0 b1 3 (vi c.width) (by kernel_rfl) (by kernel_rfl) ?_)
  refine g_adv 1 [.o 14 4] 1 [(5, vi (countS c)), (15, vi (wI ((countS c) * c.width)))] (by kernel_rfl) ?_
  refine g_val 15 (vi (wI ((countS c) * c.width))) (vi ((countS c) * c.width)) (wI_eq (by omega) (by omega) (by omega)) (by kernel_rfl) ?_
  refine g_adv 2 [.o 14 6] 1 [(15, vi ((countS c) * c.width)), (17, vi (wI ((countS c) * 8)))] (by kernel_rfl) ?_
  refine g_val 17 (vi (wI ((countS c) * 8))) (vi ((countS c) * 8)) (wI_eq (by omega) (by omega) (by omega)) (by kernel_rfl) ?_
  refine g_adv 1 [.o 14 7] 1 [(18, vi (wI ((countS c) * c.width + ((countS c) * 8))))] (by kernel_rfl) ?_
  refine g_val 18 (vi (wI ((countS c) * c.width + ((countS c) * 8)))) (vi ((countS c) * c.width + ((countS c) * 8))) (wI_eq (by omega) (by omega) (by omega)) (by kernel_rfl) ?_
  refine g_adv 3 [] 2 [(2, vi ((countS c) * c.width + ((countS c) * 8)))] (by kernel_rfl) ?_
  refine g_post () [1] [vi ((countS c) * c.width + ((countS c) * 8))] (.tmp (by kernel_rfl) .nil) (by rfl) (by kernel_rfl)

theorem c_shape_Path (c : Conf) (a : Int) : Ct Tryz.prog 230 [.agg #[vi c.regions, vi c.objects, vi c.stripes, vi c.width, vi c.threads, vi c.slots, vi c.regs, vi c.locks, vi c.undo, vi c.escalate, vi c.tickets, vi c.policy], vi a] [] (fun _ : Unit => .tuple #[vi ((path c a).1), vi ((path c a).2.1), vi ((path c a).2.2.1), vi ((path c a).2.2.2)]) (fun _ => []) := by
  refine ct_intro Tryz.f230 47 Tryz.func230 rfl rfl rfl (fun E R => ?_)
  have hb := counts_bounds c
  refine g_adv 2 [.o 2 0, .c 3] 1 [(0, .agg #[vi c.regions, vi c.objects, vi c.stripes, vi c.width, vi c.threads, vi c.slots, vi c.regs, vi c.locks, vi c.undo, vi c.escalate, vi c.tickets, vi c.policy]), (1, vi a)] (by kernel_rfl) ?_
  refine g_op (by kernel_rfl) (ot_new #[vi c.regions, vi c.objects, vi c.stripes, vi c.width, vi c.threads, vi c.slots, vi c.regs, vi c.locks, vi c.undo, vi c.escalate, vi c.tickets, vi c.policy] 25 (by kernel_rfl) ?_)
  intro b1
  refine g_adv 11 [.o 12 3, .c 13, .c 7] 2 [(1, vi a), (2, pt b1 0), (15, vb (decide (a < 0)))] (by kernel_rfl) ?_
  refine g_bool 15 (decide (a < 0)) (by kernel_rfl) (fun h1 => ?_) (fun h1 => ?_)
  · have h1p : a < 0 := of_decide_eq_true h1
    refine g_adv 15 [] 3 [(4, vi 0), (5, vi 0), (6, vi 0), (7, vi 1)] (by kernel_rfl) ?_
    refine g_post () [1] [vi 0, vi 0, vi 0, vi 1] (.tmp (by kernel_rfl) (.tmp (by kernel_rfl) (.tmp (by kernel_rfl) (.tmp (by kernel_rfl) .nil)))) (by rw [path_bad (Or.inl h1p)]; rfl) (by kernel_rfl)
  · have h1p : ¬ (a < 0) := of_decide_eq_false h1
    refine g_adv 1 [.o 12 4] 1 [(1, vi a), (2, pt b1 0), (15, vb false), (16, vi a)] (by kernel_rfl) ?_
    refine g_op (by kernel_rfl) (ot_loadA 0 b1 0 [vi c.regions, vi c.objects, vi c.stripes, vi c.width, vi c.threads, vi c.slots, vi c.regs, vi c.locks, vi c.undo, vi c.escalate, vi c.tickets, vi c.policy] (by kernel_rfl) (by kernel_rfl) ?_)
    refine g_op (by kernel_rfl) (ot_call [] (c_shape_Words c) (by kernel_rfl) (by kernel_rfl) ?_)
    intro _
    refine g_adv 3 [] 1 [(1, vi a), (2, pt b1 0), (20, vb (decide (a ≥ words c)))] (by kernel_rfl) ?_
    refine g_cond (decide (a ≥ words c)) (by kernel_rfl) (fun h2 => ?_) (fun h2 => ?_)
    · have h2p : a ≥ words c := of_decide_eq_true h2
      refine g_adv 8 [] 2 [(4, vi 0), (5, vi 0), (6, vi 0), (7, vi 1)] (by kernel_rfl) ?_
      refine g_post () [1] [vi 0, vi 0, vi 0, vi 1] (.tmp (by kernel_rfl) (.tmp (by kernel_rfl) (.tmp (by kernel_rfl) (.tmp (by kernel_rfl) .nil)))) (by rw [path_bad (Or.inr h2p)]; rfl) (by kernel_rfl)
    · have h2p : ¬ (a ≥ words c) := of_decide_eq_false h2
      have hk := counts_pos (c := c) (by intro h; simp [words, h] at *; omega); have hp := hk.prods; have hr := hk.regions; have ho := (Conf.ok_iff c).2 hk; have hq := hk.objects; have hs := hk.stripes; have hw := hk.width; have eR : countR c = c.regions := by simp [countR, ho]
      have eO : countO c = c.regions * c.objects := by simp [countO, ho]
      have eW : words c = c.regions * c.objects * c.stripes * c.width := by simp [words, countS, ho]
      obtain ⟨⟨q1, q2⟩, ⟨q3, q4⟩, q5, q6⟩ := path_bounds hk h1p h2p
      refine g_adv 3 [.o 14 0, .c 15] 2 [(1, vi a), (2, pt b1 0)] (by kernel_rfl) ?_
      refine g_op (by kernel_rfl) (ot_loadA 0 b1 0 [vi c.regions, vi c.objects, vi c.stripes, vi c.width, vi c.threads, vi c.slots, vi c.regs, vi c.locks, vi c.undo, vi c.escalate, vi c.tickets, vi c.policy] (by kernel_rfl) (by kernel_rfl) ?_)
      refine g_op (by kernel_rfl) (ot_call [] (c_shape_counts c) (by kernel_rfl) (by kernel_rfl) ?_)
      intro _
      refine g_adv 12 [.o 30 2, .c 31] 2 [(2, pt b1 0), (8, vi (countR c)), (9, vi (countO c)), (27, vi a), (28, pt b1 3)] (by kernel_rfl) ?_
      refine g_op (by kernel_rfl) (ot_load 0 b1 3 (vi c.width) (by kernel_rfl) (by kernel_rfl) ?_)
      refine g_op (by kernel_rfl) (ot_val (vi (a / c.width)) (run_quo (by kernel_rfl) (by omega) (by omega) (by omega)) ?_)
      refine g_adv 6 [.o 62 2, .c 63] 2 [(2, pt b1 0), (8, vi (countR c)), (9, vi (countO c)), (11, vi (a / c.width)), (31, vi (a / c.width)), (32, pt b1 2)] (by kernel_rfl) ?_
      refine g_op (by kernel_rfl) (ot_load 0 b1 2 (vi c.stripes) (by kernel_rfl) (by kernel_rfl) ?_)
      refine g_op (by kernel_rfl) (ot_val (vi ((a / c.width) / c.stripes)) (run_quo (by kernel_rfl) (by omega) (by omega) (by omega)) ?_)
      refine g_adv 6 [.o 126 2, .c 127] 2 [(8, vi (countR c)), (9, vi (countO c)), (11, vi (a / c.width)), (12, vi ((a / c.width) / c.stripes)), (35, vi ((a / c.width) / c.stripes)), (36, pt b1 1)] (by kernel_rfl) ?_
      refine g_op (by kernel_rfl) (ot_load 0 b1 1 (vi c.objects) (by kernel_rfl) (by kernel_rfl) ?_)
      refine g_op (by kernel_rfl) (ot_val (vi (((a / c.width) / c.stripes) / c.objects)) (run_quo (by kernel_rfl) (by omega) (by omega) (by omega)) ?_)
      refine g_adv 3 [.o 126 7] 1 [(8, vi (countR c)), (9, vi (countO c)), (11, vi (a / c.width)), (38, vi (((a / c.width) / c.stripes) / c.objects)), (41, vi (wI (countR c + ((a / c.width) / c.stripes))))] (by kernel_rfl) ?_
      refine g_val 41 (vi (wI (countR c + ((a / c.width) / c.stripes)))) (vi (countR c + ((a / c.width) / c.stripes))) (wI_eq (by omega) (by omega) (by omega)) (by kernel_rfl) ?_
      refine g_adv 3 [.o 126 10] 1 [(11, vi (a / c.width)), (38, vi (((a / c.width) / c.stripes) / c.objects)), (41, vi (countR c + ((a / c.width) / c.stripes))), (44, vi (wI (countR c + (countO c))))] (by kernel_rfl) ?_
      refine g_val 44 (vi (wI (countR c + (countO c)))) (vi (countR c + (countO c))) (wI_eq (by omega) (by omega) (by omega)) (by kernel_rfl) ?_
      refine g_adv 2 [.o 126 12] 1 [(38, vi (((a / c.width) / c.stripes) / c.objects)), (41, vi (countR c + ((a / c.width) / c.stripes))), (46, vi (wI (countR c + (countO c) + (a / c.width))))] (by kernel_rfl) ?_
      refine g_val 46 (vi (wI (countR c + (countO c) + (a / c.width)))) (vi (countR c + (countO c) + (a / c.width))) (wI_eq (by omega) (by omega) (by omega)) (by kernel_rfl) ?_
      refine g_adv 6 [] 2 [(4, vi (((a / c.width) / c.stripes) / c.objects)), (5, vi (countR c + ((a / c.width) / c.stripes))), (6, vi (countR c + (countO c) + (a / c.width))), (7, vi 0)] (by kernel_rfl) ?_
      refine g_post () [1] [vi (((a / c.width) / c.stripes) / c.objects), vi (countR c + ((a / c.width) / c.stripes)), vi (countR c + (countO c) + (a / c.width)), vi 0] (.tmp (by kernel_rfl) (.tmp (by kernel_rfl) (.tmp (by kernel_rfl) (.tmp (by kernel_rfl) .nil)))) (by rw [path_good h1p h2p, eR, eO]; rfl) (by kernel_rfl)

theorem c_shape_Level (c : Conf) (n : Int) : Ct Tryz.prog 151 [.agg #[vi c.regions, vi c.objects, vi c.stripes, vi c.width, vi c.threads, vi c.slots, vi c.regs, vi c.locks, vi c.undo, vi c.escalate, vi c.tickets, vi c.policy], vi n] [] (fun _ : Unit => vi (level c n)) (fun _ => []) := by
  refine ct_intro Tryz.f151 36 Tryz.func151 rfl rfl rfl (fun E R => ?_)
  have hb := counts_bounds c
  refine g_adv 2 [.o 2 0, .c 3] 1 [(0, .agg #[vi c.regions, vi c.objects, vi c.stripes, vi c.width, vi c.threads, vi c.slots, vi c.regs, vi c.locks, vi c.undo, vi c.escalate, vi c.tickets, vi c.policy]), (1, vi n)] (by kernel_rfl) ?_
  refine g_op (by kernel_rfl) (ot_new #[vi c.regions, vi c.objects, vi c.stripes, vi c.width, vi c.threads, vi c.slots, vi c.regs, vi c.locks, vi c.undo, vi c.escalate, vi c.tickets, vi c.policy] 25 (by kernel_rfl) ?_)
  intro b1
  refine g_adv 4 [.o 6 0, .c 7] 2 [(1, vi n), (2, pt b1 0)] (by kernel_rfl) ?_
  refine g_op (by kernel_rfl) (ot_loadA 0 b1 0 [vi c.regions, vi c.objects, vi c.stripes, vi c.width, vi c.threads, vi c.slots, vi c.regs, vi c.locks, vi c.undo, vi c.escalate, vi c.tickets, vi c.policy] (by kernel_rfl) (by kernel_rfl) ?_)
  refine g_op (by kernel_rfl) (ot_call [] (c_shape_counts c) (by kernel_rfl) (by kernel_rfl) ?_)
  intro _
  refine g_adv 15 [.o 56 3, .c 57, .b 0, .c 15] 2 [(1, vi n), (5, vi (countR c)), (6, vi (countO c)), (7, vi (countS c)), (17, vb (decide (n < 0)))] (by kernel_rfl) ?_
  refine g_bool 17 (decide (n < 0)) (by kernel_rfl) (fun h1 => ?_) (fun h1 => ?_)
  · have h1p : n < 0 := of_decide_eq_true h1
    refine g_adv 16 [] 4 [(4, vi (-1))] (by kernel_rfl) ?_
    refine g_post () [1] [vi (-1)] (.tmp (by kernel_rfl) .nil) (by rw [level_none (Or.inl h1p)]; rfl) (by kernel_rfl)
  · have h1p : ¬ (n < 0) := of_decide_eq_false h1
    refine g_adv 4 [.o 56 7] 1 [(1, vi n), (5, vi (countR c)), (6, vi (countO c)), (7, vi (countS c)), (17, vb false), (18, vi n), (21, vi (wI (countR c + (countO c))))] (by kernel_rfl) ?_
    refine g_val 21 (vi (wI (countR c + (countO c)))) (vi (countR c + (countO c))) (wI_eq (by omega) (by omega) (by omega)) (by kernel_rfl) ?_
    refine g_adv 2 [.o 56 9] 1 [(1, vi n), (5, vi (countR c)), (6, vi (countO c)), (17, vb false), (18, vi n), (23, vi (wI (countR c + (countO c) + (countS c))))] (by kernel_rfl) ?_
    refine g_val 23 (vi (wI (countR c + (countO c) + (countS c)))) (vi (countR c + (countO c) + (countS c))) (wI_eq (by omega) (by omega) (by omega)) (by kernel_rfl) ?_
    refine g_adv 4 [] 1 [(1, vi n), (5, vi (countR c)), (6, vi (countO c)), (14, vb (decide (n ≥ countR c + (countO c) + (countS c))))] (by kernel_rfl) ?_
    refine g_cond (decide (n ≥ countR c + (countO c) + (countS c))) (by kernel_rfl) (fun h2 => ?_) (fun h2 => ?_)
    · have h2p : n ≥ countR c + (countO c) + (countS c) := of_decide_eq_true h2
      refine g_adv 5 [] 3 [(4, vi (-1))] (by kernel_rfl) ?_
      refine g_post () [1] [vi (-1)] (.tmp (by kernel_rfl) .nil) (by rw [level_none (Or.inr h2p)]; rfl) (by kernel_rfl)
    · have h2p : ¬ (n ≥ countR c + (countO c) + (countS c)) := of_decide_eq_false h2
      refine g_adv 7 [.c 231] 1 [(1, vi n), (5, vi (countR c)), (6, vi (countO c)), (26, vb (decide (n < countR c)))] (by kernel_rfl) ?_
      refine g_cond (decide (n < countR c)) (by kernel_rfl) (fun h3 => ?_) (fun h3 => ?_)
      · have h3p : n < countR c := of_decide_eq_true h3
        refine g_adv 5 [] 3 [(4, vi 0)] (by kernel_rfl) ?_
        refine g_post () [1] [vi 0] (.tmp (by kernel_rfl) .nil) (by rw [level_R h1p h2p h3p]; rfl) (by kernel_rfl)
      · have h3p : ¬ (n < countR c) := of_decide_eq_false h3
        refine g_adv 6 [.o 926 4, .c 927] 1 [(31, vi n), (34, vi (wI (countR c + (countO c))))] (by kernel_rfl) ?_
        refine g_val 34 (vi (wI (countR c + (countO c)))) (vi (countR c + (countO c))) (wI_eq (by omega) (by omega) (by omega)) (by kernel_rfl) ?_
        refine g_adv 3 [] 1 [(30, vb (decide (n < countR c + (countO c))))] (by kernel_rfl) ?_
        refine g_cond (decide (n < countR c + (countO c))) (by kernel_rfl) (fun h4 => ?_) (fun h4 => ?_)
        · have h4p : n < countR c + (countO c) := of_decide_eq_true h4
          refine g_adv 5 [] 3 [(4, vi 1)] (by kernel_rfl) ?_
          refine g_post () [1] [vi 1] (.tmp (by kernel_rfl) .nil) (by rw [level_O h1p h2p h3p h4p]; rfl) (by kernel_rfl)
        · have h4p : ¬ (n < countR c + (countO c)) := of_decide_eq_false h4
          refine g_adv 7 [] 3 [(4, vi 2)] (by kernel_rfl) ?_
          refine g_post () [1] [vi 2] (.tmp (by kernel_rfl) .nil) (by rw [level_S h1p h2p h3p h4p]; rfl) (by kernel_rfl)

theorem c_shape_Parent (c : Conf) (n : Int) : Ct Tryz.prog 258 [.agg #[vi c.regions, vi c.objects, vi c.stripes, vi c.width, vi c.threads, vi c.slots, vi c.regs, vi c.locks, vi c.undo, vi c.escalate, vi c.tickets, vi c.policy], vi n] [] (fun _ : Unit => vi (parent c n)) (fun _ => []) := by
  refine ct_intro Tryz.f258 37 Tryz.func258 rfl rfl rfl (fun E R => ?_)
  have hb := counts_bounds c
  refine g_adv 2 [.o 2 0, .c 3] 1 [(0, .agg #[vi c.regions, vi c.objects, vi c.stripes, vi c.width, vi c.threads, vi c.slots, vi c.regs, vi c.locks, vi c.undo, vi c.escalate, vi c.tickets, vi c.policy]), (1, vi n)] (by kernel_rfl) ?_
  refine g_op (by kernel_rfl) (ot_new #[vi c.regions, vi c.objects, vi c.stripes, vi c.width, vi c.threads, vi c.slots, vi c.regs, vi c.locks, vi c.undo, vi c.escalate, vi c.tickets, vi c.policy] 25 (by kernel_rfl) ?_)
  intro b1
  refine g_adv 4 [.o 6 0, .c 7] 2 [(1, vi n), (2, pt b1 0)] (by kernel_rfl) ?_
  refine g_op (by kernel_rfl) (ot_loadA 0 b1 0 [vi c.regions, vi c.objects, vi c.stripes, vi c.width, vi c.threads, vi c.slots, vi c.regs, vi c.locks, vi c.undo, vi c.escalate, vi c.tickets, vi c.policy] (by kernel_rfl) (by kernel_rfl) ?_)
  refine g_op (by kernel_rfl) (ot_call [] (c_shape_counts c) (by kernel_rfl) (by kernel_rfl) ?_)
  intro _
  refine g_adv 11 [.o 28 0, .c 29, .c 15] 2 [(1, vi n), (2, pt b1 0), (5, vi (countR c)), (6, vi (countO c))] (by kernel_rfl) ?_
  refine g_op (by kernel_rfl) (ot_loadA 0 b1 0 [vi c.regions, vi c.objects, vi c.stripes, vi c.width, vi c.threads, vi c.slots, vi c.regs, vi c.locks, vi c.undo, vi c.escalate, vi c.tickets, vi c.policy] (by kernel_rfl) (by kernel_rfl) ?_)
  refine g_adv 1 [.o 28 2] 1 [(1, vi n), (2, pt b1 0), (5, vi (countR c)), (6, vi (countO c)), (14, .agg #[vi c.regions, vi c.objects, vi c.stripes, vi c.width, vi c.threads, vi c.slots, vi c.regs, vi c.locks, vi c.undo, vi c.escalate, vi c.tickets, vi c.policy]), (15, vi n)] (by kernel_rfl) ?_
  refine g_op (by kernel_rfl) (ot_call [] (c_shape_Level c n) (by kernel_rfl) (by kernel_rfl) ?_)
  intro _
  refine g_adv 7 [.c 117, .b 0] 2 [(1, vi n), (2, pt b1 0), (5, vi (countR c)), (6, vi (countO c)), (16, vi (level c n)), (17, vb (level c n == 1))] (by kernel_rfl) ?_
  refine g_cond (level c n == 1) (by kernel_rfl) (fun h1 => ?_) (fun h1 => ?_)
  · have h1p : level c n = 1 := eq_of_beq h1
    obtain ⟨hk, q1, q2⟩ := level_one h1p; obtain ⟨e1, e2, e3⟩ := counts_of hk; have hq := hk.objects; obtain ⟨q3, q4⟩ := div_bound (a := n - countR c) (b := c.objects) (m := 5000) (by omega) (by omega) (by omega)
    refine g_adv 5 [.o 468 3, .c 469] 1 [(2, pt b1 0), (21, vi (wI (n - (countR c))))] (by kernel_rfl) ?_
    refine g_val 21 (vi (wI (n - (countR c)))) (vi (n - (countR c))) (wI_eq (by omega) (by omega) (by omega)) (by kernel_rfl) ?_
    refine g_adv 1 [.o 468 4] 1 [(21, vi (n - (countR c))), (22, pt b1 1)] (by kernel_rfl) ?_
    refine g_op (by kernel_rfl) (ot_load 0 b1 1 (vi c.objects) (by kernel_rfl) (by kernel_rfl) ?_)
    refine g_op (by kernel_rfl) (ot_val (vi ((n - (countR c)) / c.objects)) (run_quo (by kernel_rfl) (by omega) (by omega) (by omega)) ?_)
    refine g_adv 3 [] 4 [(4, vi ((n - (countR c)) / c.objects))] (by kernel_rfl) ?_
    refine g_post () [1] [vi ((n - (countR c)) / c.objects)] (.tmp (by kernel_rfl) .nil) (by rw [parent_one h1p]; rfl) (by kernel_rfl)
  · have h1p : level c n ≠ 1 := ne_of_beq_false h1
    refine g_adv 5 [.c 471] 1 [(1, vi n), (2, pt b1 0), (5, vi (countR c)), (6, vi (countO c)), (25, vb (level c n == 2))] (by kernel_rfl) ?_
    refine g_cond (level c n == 2) (by kernel_rfl) (fun h2 => ?_) (fun h2 => ?_)
    · have h2p : level c n = 2 := eq_of_beq h2
      obtain ⟨hk, q1, q2⟩ := level_two h2p; obtain ⟨e1, e2, e3⟩ := counts_of hk; have hq := hk.stripes; obtain ⟨q3, q4⟩ := div_bound (a := n - countR c - countO c) (b := c.stripes) (m := 5000) (by omega) (by omega) (by omega)
      refine g_adv 6 [.o 1884 4, .c 1885] 1 [(2, pt b1 0), (6, vi (countO c)), (27, vi (countR c)), (30, vi (wI (n - (countR c))))] (by kernel_rfl) ?_
      refine g_val 30 (vi (wI (n - (countR c)))) (vi (n - (countR c))) (wI_eq (by omega) (by omega) (by omega)) (by kernel_rfl) ?_
      refine g_adv 2 [.o 1884 6] 1 [(2, pt b1 0), (27, vi (countR c)), (32, vi (wI (n - (countR c) - (countO c))))] (by kernel_rfl) ?_
      refine g_val 32 (vi (wI (n - (countR c) - (countO c)))) (vi (n - (countR c) - (countO c))) (wI_eq (by omega) (by omega) (by omega)) (by kernel_rfl) ?_
      refine g_adv 1 [.o 1884 7] 1 [(27, vi (countR c)), (32, vi (n - (countR c) - (countO c))), (33, pt b1 2)] (by kernel_rfl) ?_
      refine g_op (by kernel_rfl) (ot_load 0 b1 2 (vi c.stripes) (by kernel_rfl) (by kernel_rfl) ?_)
      refine g_op (by kernel_rfl) (ot_val (vi ((n - (countR c) - (countO c)) / c.stripes)) (run_quo (by kernel_rfl) (by omega) (by omega) (by omega)) ?_)
      refine g_adv 1 [.o 1884 10] 1 [(36, vi (wI (countR c + ((n - (countR c) - (countO c)) / c.stripes))))] (by kernel_rfl) ?_
      refine g_val 36 (vi (wI (countR c + ((n - (countR c) - (countO c)) / c.stripes)))) (vi (countR c + ((n - (countR c) - (countO c)) / c.stripes))) (wI_eq (by omega) (by omega) (by omega)) (by kernel_rfl) ?_
      refine g_adv 3 [] 4 [(4, vi (countR c + ((n - (countR c) - (countO c)) / c.stripes)))] (by kernel_rfl) ?_
      refine g_post () [1] [vi (countR c + ((n - (countR c) - (countO c)) / c.stripes))] (.tmp (by kernel_rfl) .nil) (by rw [parent_two h2p]; rfl) (by kernel_rfl)
    · have h2p : level c n ≠ 2 := ne_of_beq_false h2
      refine g_adv 7 [] 3 [(4, vi (-1))] (by kernel_rfl) ?_
      refine g_post () [1] [vi (-1)] (.tmp (by kernel_rfl) .nil) (by rw [parent_none h1p h2p]; rfl) (by kernel_rfl)

theorem c_shape_Latch (c : Conf) (n : Int) : Ct Tryz.prog 158 [.agg #[vi c.regions, vi c.objects, vi c.stripes, vi c.width, vi c.threads, vi c.slots, vi c.regs, vi c.locks, vi c.undo, vi c.escalate, vi c.tickets, vi c.policy], vi n] [] (fun _ : Unit => vi (latchAt c n)) (fun _ => []) := by
  refine ct_intro Tryz.f158 27 Tryz.func158 rfl rfl rfl (fun E R => ?_)
  have hb := counts_bounds c
  refine g_adv 2 [.o 2 0, .c 3] 1 [(0, .agg #[vi c.regions, vi c.objects, vi c.stripes, vi c.width, vi c.threads, vi c.slots, vi c.regs, vi c.locks, vi c.undo, vi c.escalate, vi c.tickets, vi c.policy]), (1, vi n)] (by kernel_rfl) ?_
  refine g_op (by kernel_rfl) (ot_new #[vi c.regions, vi c.objects, vi c.stripes, vi c.width, vi c.threads, vi c.slots, vi c.regs, vi c.locks, vi c.undo, vi c.escalate, vi c.tickets, vi c.policy] 25 (by kernel_rfl) ?_)
  intro b1
  refine g_adv 5 [.o 12 0, .c 13, .c 7] 2 [(1, vi n), (2, pt b1 0)] (by kernel_rfl) ?_
  refine g_op (by kernel_rfl) (ot_loadA 0 b1 0 [vi c.regions, vi c.objects, vi c.stripes, vi c.width, vi c.threads, vi c.slots, vi c.regs, vi c.locks, vi c.undo, vi c.escalate, vi c.tickets, vi c.policy] (by kernel_rfl) (by kernel_rfl) ?_)
  refine g_adv 1 [.o 12 2] 1 [(1, vi n), (2, pt b1 0), (8, .agg #[vi c.regions, vi c.objects, vi c.stripes, vi c.width, vi c.threads, vi c.slots, vi c.regs, vi c.locks, vi c.undo, vi c.escalate, vi c.tickets, vi c.policy]), (9, vi n)] (by kernel_rfl) ?_
  refine g_op (by kernel_rfl) (ot_call [] (c_shape_Level c n) (by kernel_rfl) (by kernel_rfl) ?_)
  intro _
  refine g_adv 2 [] 1 [(1, vi n), (2, pt b1 0), (11, vb (level c n != 2))] (by kernel_rfl) ?_
  refine g_cond (level c n != 2) (by kernel_rfl) (fun h1 => ?_) (fun h1 => ?_)
  · have h1p : level c n ≠ 2 := bne_iff_ne.1 h1
    refine g_adv 5 [] 2 [(4, vi (-1))] (by kernel_rfl) ?_
    refine g_post () [1] [vi (-1)] (.tmp (by kernel_rfl) .nil) (by rw [latch_none h1p]; rfl) (by kernel_rfl)
  · have h1p : level c n = 2 := (by simpa using h1)
    obtain ⟨hk, q1, q2⟩ := level_two h1p; obtain ⟨e1, e2, e3⟩ := counts_of hk
    refine g_adv 3 [.o 14 0, .c 15] 2 [(1, vi n), (2, pt b1 0)] (by kernel_rfl) ?_
    refine g_op (by kernel_rfl) (ot_loadA 0 b1 0 [vi c.regions, vi c.objects, vi c.stripes, vi c.width, vi c.threads, vi c.slots, vi c.regs, vi c.locks, vi c.undo, vi c.escalate, vi c.tickets, vi c.policy] (by kernel_rfl) (by kernel_rfl) ?_)
    refine g_op (by kernel_rfl) (ot_call [] (c_shape_counts c) (by kernel_rfl) (by kernel_rfl) ?_)
    intro _
    refine g_adv 10 [.o 30 0, .c 31] 2 [(1, vi n), (2, pt b1 0), (5, vi (countR c)), (6, vi (countO c))] (by kernel_rfl) ?_
    refine g_op (by kernel_rfl) (ot_loadA 0 b1 0 [vi c.regions, vi c.objects, vi c.stripes, vi c.width, vi c.threads, vi c.slots, vi c.regs, vi c.locks, vi c.undo, vi c.escalate, vi c.tickets, vi c.policy] (by kernel_rfl) (by kernel_rfl) ?_)
    refine g_op (by kernel_rfl) (ot_call [] (c_shape_Words c) (by kernel_rfl) (by kernel_rfl) ?_)
    intro _
    refine g_adv 3 [.o 30 5] 1 [(6, vi (countO c)), (19, vi (words c)), (22, vi (wI (n - (countR c))))] (by kernel_rfl) ?_
    refine g_val 22 (vi (wI (n - (countR c)))) (vi (n - (countR c))) (wI_eq (by omega) (by omega) (by omega)) (by kernel_rfl) ?_
    refine g_adv 2 [.o 30 7] 1 [(19, vi (words c)), (24, vi (wI (n - (countR c) - (countO c))))] (by kernel_rfl) ?_
    refine g_val 24 (vi (wI (n - (countR c) - (countO c)))) (vi (n - (countR c) - (countO c))) (wI_eq (by omega) (by omega) (by omega)) (by kernel_rfl) ?_
    refine g_adv 1 [.o 30 8] 1 [(19, vi (words c)), (25, vi (wI ((n - (countR c) - (countO c)) * 8)))] (by kernel_rfl) ?_
    refine g_val 25 (vi (wI ((n - (countR c) - (countO c)) * 8))) (vi ((n - (countR c) - (countO c)) * 8)) (wI_eq (by omega) (by omega) (by omega)) (by kernel_rfl) ?_
    refine g_adv 1 [.o 30 9] 1 [(26, vi (wI (words c + ((n - (countR c) - (countO c)) * 8))))] (by kernel_rfl) ?_
    refine g_val 26 (vi (wI (words c + ((n - (countR c) - (countO c)) * 8)))) (vi (words c + ((n - (countR c) - (countO c)) * 8))) (wI_eq (by omega) (by omega) (by omega)) (by kernel_rfl) ?_
    refine g_adv 3 [] 2 [(4, vi (words c + ((n - (countR c) - (countO c)) * 8)))] (by kernel_rfl) ?_
    refine g_post () [1] [vi (words c + ((n - (countR c) - (countO c)) * 8))] (.tmp (by kernel_rfl) .nil) (by rw [latch_two h1p]; rfl) (by kernel_rfl)

end Go.Proofs
