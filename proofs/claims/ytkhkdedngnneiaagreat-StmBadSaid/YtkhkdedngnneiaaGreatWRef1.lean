/- The walks of the layer ref1: printed by a program of this repo (wip/gen). -/
import Derived.Test.YtkhkdedngnneiaaGreatWEasy
import Derived.Test.YtkhkdedngnneiaaGreatMRef1
import Derived.Test.YtkhkdedngnneiaaGreatProg
namespace Go.Proofs
open Go Go.Sl Go.Lk
set_option maxRecDepth 20000
set_option linter.unusedVariables false

theorem c_ltkref1_Check (c : Conf) : Ct Tryz.prog 39 [.agg #[vi c.regions, vi c.objects, vi c.stripes, vi c.width, vi c.threads, vi c.slots, vi c.regs, vi c.locks, vi c.undo, vi c.escalate, vi c.tickets, vi c.policy]] [] (fun _ : Unit => vi (check c)) (fun _ => []) := by
  refine ct_intro Tryz.f39 108 Tryz.func39 rfl rfl rfl (fun E R => ?_)
  refine g_adv 2 [.o 2 0, .c 3] 1 [(0, .agg #[vi c.regions, vi c.objects, vi c.stripes, vi c.width, vi c.threads, vi c.slots, vi c.regs, vi c.locks, vi c.undo, vi c.escalate, vi c.tickets, vi c.policy])] (by kernel_rfl) ?_
  refine g_op (by kernel_rfl) (ot_new #[vi c.regions, vi c.objects, vi c.stripes, vi c.width, vi c.threads, vi c.slots, vi c.regs, vi c.locks, vi c.undo, vi c.escalate, vi c.tickets, vi c.policy] 25 (by kernel_rfl) ?_)
  intro b1
  refine g_adv 5 [.o 6 1, .c 7] 2 [(1, pt b1 0), (5, pt b1 0)] (by kernel_rfl) ?_
  refine g_op (by kernel_rfl) (ot_load 0 b1 0 (vi c.regions) (by kernel_rfl) (by kernel_rfl) ?_)
  refine g_adv 1 [.o 6 3] 1 [(1, pt b1 0), (6, vi c.regions), (7, pt b1 1)] (by kernel_rfl) ?_
  refine g_op (by kernel_rfl) (ot_load 0 b1 1 (vi c.objects) (by kernel_rfl) (by kernel_rfl) ?_)
  refine g_adv 1 [.o 6 5] 1 [(1, pt b1 0), (6, vi c.regions), (8, vi c.objects), (9, pt b1 2)] (by kernel_rfl) ?_
  refine g_op (by kernel_rfl) (ot_load 0 b1 2 (vi c.stripes) (by kernel_rfl) (by kernel_rfl) ?_)
  refine g_adv 1 [.o 6 7] 1 [(1, pt b1 0), (6, vi c.regions), (8, vi c.objects), (10, vi c.stripes), (11, pt b1 3)] (by kernel_rfl) ?_
  refine g_op (by kernel_rfl) (ot_load 0 b1 3 (vi c.width) (by kernel_rfl) (by kernel_rfl) ?_)
  refine g_op (by kernel_rfl) (ot_lit 3 4 #[vi c.regions, vi c.objects, vi c.stripes, vi c.width] (by kernel_rfl) ?_)
  intro b2
  refine g_lit 0 b2 #[vi c.regions, vi c.objects, vi c.stripes, vi c.width] 3 1 encI (fun _ => rfl) [c.regions, c.objects, c.stripes, c.width] (by kernel_rfl) (by rfl) ?_
  refine g_adv 8 [.c 58, .b 0, .c 15] 2 [(1, pt b1 0), (3, .slice (some ⟨b2, 0, none⟩) 4 4), (4, vi 0)] (by kernel_rfl) ?_
  refine g_loop' (fun (x_ : { x_ : Nat // match x_ with | i => i ≤ 4 ∧ ([c.regions, c.objects, c.stripes, c.width].take i).all partB = true }) => match x_.1 with | i => ([(1, pt b1 0), (3, .slice (some ⟨b2, 0, none⟩) 4 4), (4, vi (i : Int))], [.sp (Sl 3 1 encI (some ⟨b2, 0, none⟩) 4 [c.regions, c.objects, c.stripes, c.width]), .obj b1 (.cells #[vi c.regions, vi c.objects, vi c.stripes, vi c.width, vi c.threads, vi c.slots, vi c.regs, vi c.locks, vi c.undo, vi c.escalate, vi c.tickets, vi c.policy] 25 (0, 0)), .sp R])) (fun (x_ : { x_ : Nat // match x_ with | i => i ≤ 4 ∧ ([c.regions, c.objects, c.stripes, c.width].take i).all partB = true }) => match x_.1 with | i => 4 - i) ⟨0, by exact ⟨by omega, rfl⟩⟩ [0, 0, 0] (by kernel_rfl) (by kernel_rfl) (by kernel_rfl) ?_
  rintro ⟨i, hi1⟩
  have hi1 : i ≤ 4 ∧ ([c.regions, c.objects, c.stripes, c.width].take i).all partB = true := hi1
  obtain ⟨hi1_0, hi1_1⟩ := hi1
  refine g_adv 6 [.c 465, .c 233] 1 [(1, pt b1 0), (3, .slice (some ⟨b2, 0, none⟩) 4 4), (4, vi (i : Int)), (15, vb (decide ((i : Int) < 4)))] (by kernel_rfl) ?_
  refine g_cond (decide ((i : Int) < 4)) (by kernel_rfl) (fun h1 => ?_) (fun h1 => ?_)
  · have h1p : (i : Int) < 4 := of_decide_eq_true h1
    refine g_adv 7 [.o 1864 2, .c 1865, .b 1, .c 467] 2 [(1, pt b1 0), (3, .slice (some ⟨b2, 0, none⟩) 4 4), (4, vi (i : Int)), (18, .slice (some ⟨b2, 0, none⟩) 4 4), (19, vi (i : Int))] (by kernel_rfl) ?_
    refine g_op (by kernel_rfl) (ot_val (pt b2 (0 + i * 1)) (run_ix b2 0 4 4 (i : Int) 1 (by kernel_rfl) (by omega) (by omega)) ?_)
    obtain ⟨x1, hx1⟩ : ∃ x, [c.regions, c.objects, c.stripes, c.width][i]? = some x := ⟨_, List.getElem?_eq_getElem (by simp; omega)⟩
    refine g_op (by kernel_rfl) (ot_loadS 0 b2 0 i 0 (0 + i * 1) (vi x1) (Sl.reads (T := 3) (sz := 1) (enc := encI) (ad := (some ⟨b2, 0, none⟩)) (cap := 4) (l := [c.regions, c.objects, c.stripes, c.width])) (by kernel_rfl) (by kernel_rfl) (by rfl) hx1 (by rfl) ?_)
    refine g_adv 2 [.o 1864 6] 1 [(1, pt b1 0), (3, .slice (some ⟨b2, 0, none⟩) 4 4), (4, vi (i : Int)), (23, vb (decide (x1 < 1)))] (by kernel_rfl) ?_
    refine g_bool 23 (decide (x1 < 1)) (by kernel_rfl) (fun h2 => ?_) (fun h2 => ?_)
    · have h2p : x1 < 1 := of_decide_eq_true h2
      refine g_adv 13 [] 7 [(2, vi 1)] (by kernel_rfl) ?_
      refine g_post () [2] [vi 1] (.tmp (by kernel_rfl) .nil) (by first | (rw [ref_part_bad hx1 (by omega)]; rfl) | (rw [ref_bad (by omega)]; rfl) | (rw [ref_ok hi1_1 (by omega)]; rfl)) (by kernel_rfl)
    · have h2p : ¬ (x1 < 1) := of_decide_eq_false h2
      refine g_adv 2 [.o 1864 8] 1 [(1, pt b1 0), (3, .slice (some ⟨b2, 0, none⟩) 4 4), (4, vi (i : Int)), (23, vb false), (24, .slice (some ⟨b2, 0, none⟩) 4 4), (25, vi (i : Int))] (by kernel_rfl) ?_
      refine g_op (by kernel_rfl) (ot_val (pt b2 (0 + i * 1)) (run_ix b2 0 4 4 (i : Int) 1 (by kernel_rfl) (by omega) (by omega)) ?_)
      refine g_op (by kernel_rfl) (ot_loadS 0 b2 0 i 0 (0 + i * 1) (vi x1) (Sl.reads (T := 3) (sz := 1) (enc := encI) (ad := (some ⟨b2, 0, none⟩)) (cap := 4) (l := [c.regions, c.objects, c.stripes, c.width])) (by kernel_rfl) (by kernel_rfl) (by rfl) hx1 (by rfl) ?_)
      refine g_adv 3 [] 1 [(1, pt b1 0), (3, .slice (some ⟨b2, 0, none⟩) 4 4), (4, vi (i : Int)), (29, vb (decide (x1 > 8)))] (by kernel_rfl) ?_
      refine g_cond (decide (x1 > 8)) (by kernel_rfl) (fun h3 => ?_) (fun h3 => ?_)
      · have h3p : x1 > 8 := of_decide_eq_true h3
        refine g_adv 5 [] 6 [(2, vi 1)] (by kernel_rfl) ?_
        refine g_post () [2] [vi 1] (.tmp (by kernel_rfl) .nil) (by first | (rw [ref_part_bad hx1 (by omega)]; rfl) | (rw [ref_bad (by omega)]; rfl) | (rw [ref_ok hi1_1 (by omega)]; rfl)) (by kernel_rfl)
      · have h3p : ¬ (x1 > 8) := of_decide_eq_false h3
        refine g_adv 5 [.o 467 2] 3 [(1, pt b1 0), (3, .slice (some ⟨b2, 0, none⟩) 4 4), (17, vi (wI ((i : Int) + 1)))] (by kernel_rfl) ?_
        refine g_val 17 (vi (wI ((i : Int) + 1))) (vi ((i + 1 : Nat) : Int)) (wI_eq (by omega) (by omega) (by omega)) (by kernel_rfl) ?_
        refine g_adv 2 [] 1 [(1, pt b1 0), (3, .slice (some ⟨b2, 0, none⟩) 4 4), (4, vi ((i + 1 : Nat) : Int))] (by kernel_rfl) ?_
        refine g_round ⟨i + 1, by exact ⟨by omega, take_all_step hi1_1 hx1 (by simp [partB]; omega)⟩⟩ [0, 0, 0] (by first | omega | (simp; done) | (simp; omega)) (by kernel_rfl) (by kernel_rfl)
  · have h1p : ¬ ((i : Int) < 4) := of_decide_eq_false h1
    obtain rfl : i = 4 := by omega
    refine g_adv 5 [.o 60 1, .c 61, .c 31] 5 [(1, pt b1 0), (30, pt b1 4)] (by kernel_rfl) ?_
    refine g_op (by kernel_rfl) (ot_load 1 b1 4 (vi c.threads) (by kernel_rfl) (by kernel_rfl) ?_)
    refine g_adv 2 [.o 60 4] 1 [(1, pt b1 0), (33, vb (decide (c.threads < 1)))] (by kernel_rfl) ?_
    refine g_bool 33 (decide (c.threads < 1)) (by kernel_rfl) (fun h2 => ?_) (fun h2 => ?_)
    · have h2p : c.threads < 1 := of_decide_eq_true h2
      refine g_adv 81 [] 3 [(2, vi 1)] (by kernel_rfl) ?_
      refine g_post () [2] [vi 1] (.tmp (by kernel_rfl) .nil) (by first | (rw [ref_part_bad hx1 (by omega)]; rfl) | (rw [ref_bad (by omega)]; rfl) | (rw [ref_ok hi1_1 (by omega)]; rfl)) (by kernel_rfl)
    · have h2p : ¬ (c.threads < 1) := of_decide_eq_false h2
      refine g_adv 1 [.o 60 5] 1 [(1, pt b1 0), (33, vb false), (34, pt b1 4)] (by kernel_rfl) ?_
      refine g_op (by kernel_rfl) (ot_load 1 b1 4 (vi c.threads) (by kernel_rfl) (by kernel_rfl) ?_)
      refine g_adv 3 [.o 60 9] 1 [(1, pt b1 0), (38, vb (decide (c.threads > 64)))] (by kernel_rfl) ?_
      refine g_bool 38 (decide (c.threads > 64)) (by kernel_rfl) (fun h3 => ?_) (fun h3 => ?_)
      · have h3p : c.threads > 64 := of_decide_eq_true h3
        refine g_adv 76 [] 3 [(2, vi 1)] (by kernel_rfl) ?_
        refine g_post () [2] [vi 1] (.tmp (by kernel_rfl) .nil) (by first | (rw [ref_part_bad hx1 (by omega)]; rfl) | (rw [ref_bad (by omega)]; rfl) | (rw [ref_ok hi1_1 (by omega)]; rfl)) (by kernel_rfl)
      · have h3p : ¬ (c.threads > 64) := of_decide_eq_false h3
        refine g_adv 1 [.o 60 10] 1 [(1, pt b1 0), (38, vb false), (39, pt b1 5)] (by kernel_rfl) ?_
        refine g_op (by kernel_rfl) (ot_load 1 b1 5 (vi c.slots) (by kernel_rfl) (by kernel_rfl) ?_)
        refine g_adv 3 [.o 60 14] 1 [(1, pt b1 0), (43, vb (decide (c.slots < 0)))] (by kernel_rfl) ?_
        refine g_bool 43 (decide (c.slots < 0)) (by kernel_rfl) (fun h4 => ?_) (fun h4 => ?_)
        · have h4p : c.slots < 0 := of_decide_eq_true h4
          refine g_adv 71 [] 3 [(2, vi 1)] (by kernel_rfl) ?_
          refine g_post () [2] [vi 1] (.tmp (by kernel_rfl) .nil) (by first | (rw [ref_part_bad hx1 (by omega)]; rfl) | (rw [ref_bad (by omega)]; rfl) | (rw [ref_ok hi1_1 (by omega)]; rfl)) (by kernel_rfl)
        · have h4p : ¬ (c.slots < 0) := of_decide_eq_false h4
          refine g_adv 1 [.o 60 15] 1 [(1, pt b1 0), (43, vb false), (44, pt b1 5)] (by kernel_rfl) ?_
          refine g_op (by kernel_rfl) (ot_load 1 b1 5 (vi c.slots) (by kernel_rfl) (by kernel_rfl) ?_)
          refine g_adv 3 [.o 60 19] 1 [(1, pt b1 0), (48, vb (decide (c.slots > 48)))] (by kernel_rfl) ?_
          refine g_bool 48 (decide (c.slots > 48)) (by kernel_rfl) (fun h5 => ?_) (fun h5 => ?_)
          · have h5p : c.slots > 48 := of_decide_eq_true h5
            refine g_adv 66 [] 3 [(2, vi 1)] (by kernel_rfl) ?_
            refine g_post () [2] [vi 1] (.tmp (by kernel_rfl) .nil) (by first | (rw [ref_part_bad hx1 (by omega)]; rfl) | (rw [ref_bad (by omega)]; rfl) | (rw [ref_ok hi1_1 (by omega)]; rfl)) (by kernel_rfl)
          · have h5p : ¬ (c.slots > 48) := of_decide_eq_false h5
            refine g_adv 1 [.o 60 20] 1 [(1, pt b1 0), (48, vb false), (49, pt b1 6)] (by kernel_rfl) ?_
            refine g_op (by kernel_rfl) (ot_load 1 b1 6 (vi c.regs) (by kernel_rfl) (by kernel_rfl) ?_)
            refine g_adv 3 [.o 60 24] 1 [(1, pt b1 0), (53, vb (decide (c.regs < 1)))] (by kernel_rfl) ?_
            refine g_bool 53 (decide (c.regs < 1)) (by kernel_rfl) (fun h6 => ?_) (fun h6 => ?_)
            · have h6p : c.regs < 1 := of_decide_eq_true h6
              refine g_adv 61 [] 3 [(2, vi 1)] (by kernel_rfl) ?_
              refine g_post () [2] [vi 1] (.tmp (by kernel_rfl) .nil) (by first | (rw [ref_part_bad hx1 (by omega)]; rfl) | (rw [ref_bad (by omega)]; rfl) | (rw [ref_ok hi1_1 (by omega)]; rfl)) (by kernel_rfl)
            · have h6p : ¬ (c.regs < 1) := of_decide_eq_false h6
              refine g_adv 1 [.o 60 25] 1 [(1, pt b1 0), (53, vb false), (54, pt b1 6)] (by kernel_rfl) ?_
              refine g_op (by kernel_rfl) (ot_load 1 b1 6 (vi c.regs) (by kernel_rfl) (by kernel_rfl) ?_)
              refine g_adv 3 [.o 60 29] 1 [(1, pt b1 0), (58, vb (decide (c.regs > 8)))] (by kernel_rfl) ?_
              refine g_bool 58 (decide (c.regs > 8)) (by kernel_rfl) (fun h7 => ?_) (fun h7 => ?_)
              · have h7p : c.regs > 8 := of_decide_eq_true h7
                refine g_adv 56 [] 3 [(2, vi 1)] (by kernel_rfl) ?_
                refine g_post () [2] [vi 1] (.tmp (by kernel_rfl) .nil) (by first | (rw [ref_part_bad hx1 (by omega)]; rfl) | (rw [ref_bad (by omega)]; rfl) | (rw [ref_ok hi1_1 (by omega)]; rfl)) (by kernel_rfl)
              · have h7p : ¬ (c.regs > 8) := of_decide_eq_false h7
                refine g_adv 1 [.o 60 30] 1 [(1, pt b1 0), (58, vb false), (59, pt b1 7)] (by kernel_rfl) ?_
                refine g_op (by kernel_rfl) (ot_load 1 b1 7 (vi c.locks) (by kernel_rfl) (by kernel_rfl) ?_)
                refine g_adv 3 [.o 60 34] 1 [(1, pt b1 0), (63, vb (decide (c.locks < 1)))] (by kernel_rfl) ?_
                refine g_bool 63 (decide (c.locks < 1)) (by kernel_rfl) (fun h8 => ?_) (fun h8 => ?_)
                · have h8p : c.locks < 1 := of_decide_eq_true h8
                  refine g_adv 51 [] 3 [(2, vi 1)] (by kernel_rfl) ?_
                  refine g_post () [2] [vi 1] (.tmp (by kernel_rfl) .nil) (by first | (rw [ref_part_bad hx1 (by omega)]; rfl) | (rw [ref_bad (by omega)]; rfl) | (rw [ref_ok hi1_1 (by omega)]; rfl)) (by kernel_rfl)
                · have h8p : ¬ (c.locks < 1) := of_decide_eq_false h8
                  refine g_adv 1 [.o 60 35] 1 [(1, pt b1 0), (63, vb false), (64, pt b1 7)] (by kernel_rfl) ?_
                  refine g_op (by kernel_rfl) (ot_load 1 b1 7 (vi c.locks) (by kernel_rfl) (by kernel_rfl) ?_)
                  refine g_adv 3 [.o 60 39] 1 [(1, pt b1 0), (68, vb (decide (c.locks > 4096)))] (by kernel_rfl) ?_
                  refine g_bool 68 (decide (c.locks > 4096)) (by kernel_rfl) (fun h9 => ?_) (fun h9 => ?_)
                  · have h9p : c.locks > 4096 := of_decide_eq_true h9
                    refine g_adv 46 [] 3 [(2, vi 1)] (by kernel_rfl) ?_
                    refine g_post () [2] [vi 1] (.tmp (by kernel_rfl) .nil) (by first | (rw [ref_part_bad hx1 (by omega)]; rfl) | (rw [ref_bad (by omega)]; rfl) | (rw [ref_ok hi1_1 (by omega)]; rfl)) (by kernel_rfl)
                  · have h9p : ¬ (c.locks > 4096) := of_decide_eq_false h9
                    refine g_adv 1 [.o 60 40] 1 [(1, pt b1 0), (68, vb false), (69, pt b1 8)] (by kernel_rfl) ?_
                    refine g_op (by kernel_rfl) (ot_load 1 b1 8 (vi c.undo) (by kernel_rfl) (by kernel_rfl) ?_)
                    refine g_adv 3 [.o 60 44] 1 [(1, pt b1 0), (73, vb (decide (c.undo < 1)))] (by kernel_rfl) ?_
                    refine g_bool 73 (decide (c.undo < 1)) (by kernel_rfl) (fun h10 => ?_) (fun h10 => ?_)
                    · have h10p : c.undo < 1 := of_decide_eq_true h10
                      refine g_adv 41 [] 3 [(2, vi 1)] (by kernel_rfl) ?_
                      refine g_post () [2] [vi 1] (.tmp (by kernel_rfl) .nil) (by first | (rw [ref_part_bad hx1 (by omega)]; rfl) | (rw [ref_bad (by omega)]; rfl) | (rw [ref_ok hi1_1 (by omega)]; rfl)) (by kernel_rfl)
                    · have h10p : ¬ (c.undo < 1) := of_decide_eq_false h10
                      refine g_adv 1 [.o 60 45] 1 [(1, pt b1 0), (73, vb false), (74, pt b1 8)] (by kernel_rfl) ?_
                      refine g_op (by kernel_rfl) (ot_load 1 b1 8 (vi c.undo) (by kernel_rfl) (by kernel_rfl) ?_)
                      refine g_adv 3 [.o 60 49] 1 [(1, pt b1 0), (78, vb (decide (c.undo > 1000)))] (by kernel_rfl) ?_
                      refine g_bool 78 (decide (c.undo > 1000)) (by kernel_rfl) (fun h11 => ?_) (fun h11 => ?_)
                      · have h11p : c.undo > 1000 := of_decide_eq_true h11
                        refine g_adv 36 [] 3 [(2, vi 1)] (by kernel_rfl) ?_
                        refine g_post () [2] [vi 1] (.tmp (by kernel_rfl) .nil) (by first | (rw [ref_part_bad hx1 (by omega)]; rfl) | (rw [ref_bad (by omega)]; rfl) | (rw [ref_ok hi1_1 (by omega)]; rfl)) (by kernel_rfl)
                      · have h11p : ¬ (c.undo > 1000) := of_decide_eq_false h11
                        refine g_adv 1 [.o 60 50] 1 [(1, pt b1 0), (78, vb false), (79, pt b1 9)] (by kernel_rfl) ?_
                        refine g_op (by kernel_rfl) (ot_load 1 b1 9 (vi c.escalate) (by kernel_rfl) (by kernel_rfl) ?_)
                        refine g_adv 3 [.o 60 54] 1 [(1, pt b1 0), (83, vb (decide (c.escalate < 0)))] (by kernel_rfl) ?_
                        refine g_bool 83 (decide (c.escalate < 0)) (by kernel_rfl) (fun h12 => ?_) (fun h12 => ?_)
                        · have h12p : c.escalate < 0 := of_decide_eq_true h12
                          refine g_adv 31 [] 3 [(2, vi 1)] (by kernel_rfl) ?_
                          refine g_post () [2] [vi 1] (.tmp (by kernel_rfl) .nil) (by first | (rw [ref_part_bad hx1 (by omega)]; rfl) | (rw [ref_bad (by omega)]; rfl) | (rw [ref_ok hi1_1 (by omega)]; rfl)) (by kernel_rfl)
                        · have h12p : ¬ (c.escalate < 0) := of_decide_eq_false h12
                          refine g_adv 1 [.o 60 55] 1 [(1, pt b1 0), (83, vb false), (84, pt b1 9)] (by kernel_rfl) ?_
                          refine g_op (by kernel_rfl) (ot_load 1 b1 9 (vi c.escalate) (by kernel_rfl) (by kernel_rfl) ?_)
                          refine g_adv 3 [.o 60 59] 1 [(1, pt b1 0), (88, vb (decide (c.escalate > 64)))] (by kernel_rfl) ?_
                          refine g_bool 88 (decide (c.escalate > 64)) (by kernel_rfl) (fun h13 => ?_) (fun h13 => ?_)
                          · have h13p : c.escalate > 64 := of_decide_eq_true h13
                            refine g_adv 26 [] 3 [(2, vi 1)] (by kernel_rfl) ?_
                            refine g_post () [2] [vi 1] (.tmp (by kernel_rfl) .nil) (by first | (rw [ref_part_bad hx1 (by omega)]; rfl) | (rw [ref_bad (by omega)]; rfl) | (rw [ref_ok hi1_1 (by omega)]; rfl)) (by kernel_rfl)
                          · have h13p : ¬ (c.escalate > 64) := of_decide_eq_false h13
                            refine g_adv 1 [.o 60 60] 1 [(1, pt b1 0), (88, vb false), (89, pt b1 10)] (by kernel_rfl) ?_
                            refine g_op (by kernel_rfl) (ot_load 1 b1 10 (vi c.tickets) (by kernel_rfl) (by kernel_rfl) ?_)
                            refine g_adv 3 [.o 60 64] 1 [(1, pt b1 0), (93, vb (decide (c.tickets < 1)))] (by kernel_rfl) ?_
                            refine g_bool 93 (decide (c.tickets < 1)) (by kernel_rfl) (fun h14 => ?_) (fun h14 => ?_)
                            · have h14p : c.tickets < 1 := of_decide_eq_true h14
                              refine g_adv 21 [] 3 [(2, vi 1)] (by kernel_rfl) ?_
                              refine g_post () [2] [vi 1] (.tmp (by kernel_rfl) .nil) (by first | (rw [ref_part_bad hx1 (by omega)]; rfl) | (rw [ref_bad (by omega)]; rfl) | (rw [ref_ok hi1_1 (by omega)]; rfl)) (by kernel_rfl)
                            · have h14p : ¬ (c.tickets < 1) := of_decide_eq_false h14
                              refine g_adv 1 [.o 60 65] 1 [(1, pt b1 0), (93, vb false), (94, pt b1 10)] (by kernel_rfl) ?_
                              refine g_op (by kernel_rfl) (ot_load 1 b1 10 (vi c.tickets) (by kernel_rfl) (by kernel_rfl) ?_)
                              refine g_adv 3 [.o 60 69] 1 [(1, pt b1 0), (98, vb (decide (c.tickets > 10000)))] (by kernel_rfl) ?_
                              refine g_bool 98 (decide (c.tickets > 10000)) (by kernel_rfl) (fun h15 => ?_) (fun h15 => ?_)
                              · have h15p : c.tickets > 10000 := of_decide_eq_true h15
                                refine g_adv 16 [] 3 [(2, vi 1)] (by kernel_rfl) ?_
                                refine g_post () [2] [vi 1] (.tmp (by kernel_rfl) .nil) (by first | (rw [ref_part_bad hx1 (by omega)]; rfl) | (rw [ref_bad (by omega)]; rfl) | (rw [ref_ok hi1_1 (by omega)]; rfl)) (by kernel_rfl)
                              · have h15p : ¬ (c.tickets > 10000) := of_decide_eq_false h15
                                refine g_adv 1 [.o 60 70] 1 [(1, pt b1 0), (98, vb false), (99, pt b1 11)] (by kernel_rfl) ?_
                                refine g_op (by kernel_rfl) (ot_load 1 b1 11 (vi c.policy) (by kernel_rfl) (by kernel_rfl) ?_)
                                refine g_adv 3 [.o 60 74] 1 [(1, pt b1 0), (103, vb (decide (c.policy < 0)))] (by kernel_rfl) ?_
                                refine g_bool 103 (decide (c.policy < 0)) (by kernel_rfl) (fun h16 => ?_) (fun h16 => ?_)
                                · have h16p : c.policy < 0 := of_decide_eq_true h16
                                  refine g_adv 11 [] 3 [(2, vi 1)] (by kernel_rfl) ?_
                                  refine g_post () [2] [vi 1] (.tmp (by kernel_rfl) .nil) (by first | (rw [ref_part_bad hx1 (by omega)]; rfl) | (rw [ref_bad (by omega)]; rfl) | (rw [ref_ok hi1_1 (by omega)]; rfl)) (by kernel_rfl)
                                · have h16p : ¬ (c.policy < 0) := of_decide_eq_false h16
                                  refine g_adv 1 [.o 60 75] 1 [(103, vb false), (104, pt b1 11)] (by kernel_rfl) ?_
                                  refine g_op (by kernel_rfl) (ot_load 1 b1 11 (vi c.policy) (by kernel_rfl) (by kernel_rfl) ?_)
                                  refine g_adv 3 [] 1 [(107, vb (decide (c.policy > 2)))] (by kernel_rfl) ?_
                                  refine g_cond (decide (c.policy > 2)) (by kernel_rfl) (fun h17 => ?_) (fun h17 => ?_)
                                  · have h17p : c.policy > 2 := of_decide_eq_true h17
                                    refine g_adv 5 [] 2 [(2, vi 1)] (by kernel_rfl) ?_
                                    refine g_post () [2] [vi 1] (.tmp (by kernel_rfl) .nil) (by first | (rw [ref_part_bad hx1 (by omega)]; rfl) | (rw [ref_bad (by omega)]; rfl) | (rw [ref_ok hi1_1 (by omega)]; rfl)) (by kernel_rfl)
                                  · have h17p : ¬ (c.policy > 2) := of_decide_eq_false h17
                                    refine g_adv 6 [] 2 [(2, vi 0)] (by kernel_rfl) ?_
                                    refine g_post () [2] [vi 0] (.tmp (by kernel_rfl) .nil) (by first | (rw [ref_part_bad hx1 (by omega)]; rfl) | (rw [ref_bad (by omega)]; rfl) | (rw [ref_ok hi1_1 (by omega)]; rfl)) (by kernel_rfl)

theorem c_ltkref1_objects (c : Conf) (hk : c.Ok) : Ct Tryz.prog 141 [.agg #[vi c.regions, vi c.objects, vi c.stripes, vi c.width, vi c.threads, vi c.slots, vi c.regs, vi c.locks, vi c.undo, vi c.escalate, vi c.tickets, vi c.policy]] [] (fun _ : Unit => vi (c.regions * c.objects)) (fun _ => []) := by
  refine ct_intro Tryz.f141 8 Tryz.func141 rfl rfl rfl (fun E R => ?_)
  have hp := hk.prods; have hr := hk.regions
  refine g_adv 2 [.o 2 0, .c 3] 1 [(0, .agg #[vi c.regions, vi c.objects, vi c.stripes, vi c.width, vi c.threads, vi c.slots, vi c.regs, vi c.locks, vi c.undo, vi c.escalate, vi c.tickets, vi c.policy])] (by kernel_rfl) ?_
  refine g_op (by kernel_rfl) (ot_new #[vi c.regions, vi c.objects, vi c.stripes, vi c.width, vi c.threads, vi c.slots, vi c.regs, vi c.locks, vi c.undo, vi c.escalate, vi c.tickets, vi c.policy] 25 (by kernel_rfl) ?_)
  intro b1
  refine g_adv 5 [.o 6 1, .c 7] 2 [(1, pt b1 0), (3, pt b1 0)] (by kernel_rfl) ?_
  refine g_op (by kernel_rfl) (ot_load 0 b1 0 (vi c.regions) (by kernel_rfl) (by kernel_rfl) ?_)
  refine g_adv 1 [.o 6 3] 1 [(4, vi c.regions), (5, pt b1 1)] (by kernel_rfl) ?_
  refine g_op (by kernel_rfl) (ot_load 0 b1 1 (vi c.objects) (by kernel_rfl) (by kernel_rfl) ?_)
  refine g_adv 1 [.o 6 5] 1 [(7, vi (wI (c.regions * c.objects)))] (by kernel_rfl) ?_
  refine g_val 7 (vi (wI (c.regions * c.objects))) (vi (c.regions * c.objects)) (wI_eq (by omega) (by omega) (by omega)) (by kernel_rfl) ?_
  refine g_adv 3 [] 2 [(2, vi (c.regions * c.objects))] (by kernel_rfl) ?_
  refine g_post () [1] [vi (c.regions * c.objects)] (.tmp (by kernel_rfl) .nil) (rfl) (by kernel_rfl)

theorem c_ltkref1_stripes (c : Conf) (hk : c.Ok) : Ct Tryz.prog 89 [.agg #[vi c.regions, vi c.objects, vi c.stripes, vi c.width, vi c.threads, vi c.slots, vi c.regs, vi c.locks, vi c.undo, vi c.escalate, vi c.tickets, vi c.policy]] [] (fun _ : Unit => vi (c.regions * c.objects * c.stripes)) (fun _ => []) := by
  refine ct_intro Tryz.f89 8 Tryz.func89 rfl rfl rfl (fun E R => ?_)
  have hp := hk.prods; have hr := hk.regions
  refine g_adv 2 [.o 2 0, .c 3] 1 [(0, .agg #[vi c.regions, vi c.objects, vi c.stripes, vi c.width, vi c.threads, vi c.slots, vi c.regs, vi c.locks, vi c.undo, vi c.escalate, vi c.tickets, vi c.policy])] (by kernel_rfl) ?_
  refine g_op (by kernel_rfl) (ot_new #[vi c.regions, vi c.objects, vi c.stripes, vi c.width, vi c.threads, vi c.slots, vi c.regs, vi c.locks, vi c.undo, vi c.escalate, vi c.tickets, vi c.policy] 25 (by kernel_rfl) ?_)
  intro b1
  refine g_adv 3 [.c 6, .c 7] 2 [(1, pt b1 0)] (by kernel_rfl) ?_
  refine d_start (by kernel_rfl) (by kernel_rfl) ?_
  refine d_run1 [(0, .agg #[vi c.regions, vi c.objects, vi c.stripes, vi c.width, vi c.threads, vi c.slots, vi c.regs, vi c.locks, vi c.undo, vi c.escalate, vi c.tickets, vi c.policy]), (2, pt b1 2), (3, vi c.stripes)] 1 (by kernel_rfl) (.one _ _ (evOK_loadG 0 b1 0 [vi c.regions, vi c.objects, vi c.stripes, vi c.width, vi c.threads, vi c.slots, vi c.regs, vi c.locks, vi c.undo, vi c.escalate, vi c.tickets, vi c.policy] (by kernel_rfl) (by kernel_rfl)) (.plainN 1 (by kernel_rfl) (.one _ _ (evOK_loadC 0 b1 2 _ (by kernel_rfl) (by kernel_rfl)) .nil))) (by kernel_rfl) (ot_call [] (c_ltkref1_objects c (by first | omega | assumption | (simp; done) | (simp; omega))) (by kernel_rfl) (by kernel_rfl) ?_)
  intro _
  refine d_done [0] (by kernel_rfl) ?_
  refine d_end [(4, vi ((c.regions * c.objects) * c.stripes)), (5, vi ((c.regions * c.objects) * c.stripes))] [(2, vi ((c.regions * c.objects) * c.stripes))] (by kernel_rfl) (.one _ _ (evOK_eq (v := vi (wI ((c.regions * c.objects) * c.stripes))) (wI_eq (by omega) (by omega) (by omega)) (evOK_pure (by kernel_rfl))) (.plainN 1 (by kernel_rfl) (.done _ _ (by kernel_rfl) (.done _ _ (by kernel_rfl) (.plainN 1 (by kernel_rfl) (.one _ _ (evOK_loadC 0 b1 2 _ (by kernel_rfl) (by kernel_rfl)) .nil)))))) (by kernel_rfl) ?_
  refine g_adv 1 [] 1 [(2, vi ((c.regions * c.objects) * c.stripes))] (by kernel_rfl) ?_
  refine g_post () [1] [vi ((c.regions * c.objects) * c.stripes)] (.tmp (by kernel_rfl) .nil) (by simp [resV, *]) (by kernel_rfl)

theorem c_ltkref1_Words (c : Conf) : Ct Tryz.prog 40 [.agg #[vi c.regions, vi c.objects, vi c.stripes, vi c.width, vi c.threads, vi c.slots, vi c.regs, vi c.locks, vi c.undo, vi c.escalate, vi c.tickets, vi c.policy]] [] (fun _ : Unit => vi (words c)) (fun _ => []) := by
  refine ct_intro Tryz.f40 11 Tryz.func40 rfl rfl rfl (fun E R => ?_)
  refine g_adv 2 [.o 2 0, .c 3] 1 [(0, .agg #[vi c.regions, vi c.objects, vi c.stripes, vi c.width, vi c.threads, vi c.slots, vi c.regs, vi c.locks, vi c.undo, vi c.escalate, vi c.tickets, vi c.policy])] (by kernel_rfl) ?_
  refine g_op (by kernel_rfl) (ot_new #[vi c.regions, vi c.objects, vi c.stripes, vi c.width, vi c.threads, vi c.slots, vi c.regs, vi c.locks, vi c.undo, vi c.escalate, vi c.tickets, vi c.policy] 25 (by kernel_rfl) ?_)
  intro b1
  refine g_adv 5 [.o 12 0, .c 13, .c 7] 2 [(1, pt b1 0)] (by kernel_rfl) ?_
  refine g_op (by kernel_rfl) (ot_loadA 0 b1 0 [vi c.regions, vi c.objects, vi c.stripes, vi c.width, vi c.threads, vi c.slots, vi c.regs, vi c.locks, vi c.undo, vi c.escalate, vi c.tickets, vi c.policy] (by kernel_rfl) (by kernel_rfl) ?_)
  refine g_op (by kernel_rfl) (ot_call [] (c_ltkref1_Check c) (by kernel_rfl) (by kernel_rfl) ?_)
  intro _
  refine g_adv 2 [] 1 [(1, pt b1 0), (5, vb (check c != 0))] (by kernel_rfl) ?_
  refine g_cond (check c != 0) (by kernel_rfl) (fun h1 => ?_) (fun h1 => ?_)
  · have h1p : check c ≠ 0 := bne_iff_ne.1 h1
    refine g_adv 5 [] 2 [(2, vi 0)] (by kernel_rfl) ?_
    refine g_post () [1] [vi 0] (.tmp (by kernel_rfl) .nil) (by rw [words_no h1p]; rfl) (by kernel_rfl)
  · have h1p : check c = 0 := (by simpa using h1)
    have hk := check_ok h1p; have hp := hk.prods; have hr := hk.regions
    refine g_adv 2 [.c 14, .c 15] 2 [(1, pt b1 0)] (by kernel_rfl) ?_
    refine d_start (by kernel_rfl) (by kernel_rfl) ?_
    refine d_run1 [(0, .agg #[vi c.regions, vi c.objects, vi c.stripes, vi c.width, vi c.threads, vi c.slots, vi c.regs, vi c.locks, vi c.undo, vi c.escalate, vi c.tickets, vi c.policy]), (2, pt b1 3), (3, vi c.width)] 1 (by kernel_rfl) (.one _ _ (evOK_loadG 0 b1 0 [vi c.regions, vi c.objects, vi c.stripes, vi c.width, vi c.threads, vi c.slots, vi c.regs, vi c.locks, vi c.undo, vi c.escalate, vi c.tickets, vi c.policy] (by kernel_rfl) (by kernel_rfl)) (.plainN 1 (by kernel_rfl) (.one _ _ (evOK_loadC 0 b1 3 _ (by kernel_rfl) (by kernel_rfl)) .nil))) (by kernel_rfl) (ot_call [] (c_ltkref1_stripes c (by exact hk)) (by kernel_rfl) (by kernel_rfl) ?_)
    intro _
    refine d_done [0] (by kernel_rfl) ?_
    refine d_end [(4, vi ((c.regions * c.objects * c.stripes) * c.width)), (5, vi ((c.regions * c.objects * c.stripes) * c.width))] [(2, vi ((c.regions * c.objects * c.stripes) * c.width))] (by kernel_rfl) (.one _ _ (evOK_eq (v := vi (wI ((c.regions * c.objects * c.stripes) * c.width))) (wI_eq (by omega) (by omega) (by omega)) (evOK_pure (by kernel_rfl))) (.plainN 1 (by kernel_rfl) (.done _ _ (by kernel_rfl) (.done _ _ (by kernel_rfl) (.plainN 1 (by kernel_rfl) (.one _ _ (evOK_loadC 0 b1 3 _ (by kernel_rfl) (by kernel_rfl)) .nil)))))) (by kernel_rfl) ?_
    refine g_adv 1 [] 1 [(2, vi ((c.regions * c.objects * c.stripes) * c.width))] (by kernel_rfl) ?_
    refine g_post () [1] [vi ((c.regions * c.objects * c.stripes) * c.width)] (.tmp (by kernel_rfl) .nil) (by rw [words_of hk]; rfl) (by kernel_rfl)

theorem c_ltkref_Copy (a : Option Addr) (cp : Nat) (l : List Int) (X : SP) (rl : Reads X 1 encI a l) (hl : l.length ≤ 1099511627776) : Ct Tryz.prog 41 [.slice a l.length cp] [.sp X] (fun x : (Option Addr) × Nat => match x with | (a2, c2) => .slice a2 l.length c2) (fun x => match x with | (a2, c2) => [.sp (Sl 3 1 encI a2 c2 l), .sp X]) := by
  refine ct_intro Tryz.f41 6 Tryz.func41 rfl rfl rfl (fun E R => ?_)
  refine g_adv 6 [.o 6 0, .c 7] 1 [(0, .slice a l.length cp)] (by kernel_rfl) ?_
  refine g_op (by kernel_rfl) (ot_lit0 3 (by kernel_rfl) ?_)
  intro b1
  refine g_adv 1 [.o 6 2] 1 [(3, .slice (some ⟨b1, 0, none⟩) 0 0), (4, .slice a l.length cp)] (by kernel_rfl) ?_
  refine g_lit 0 b1 #[] 3 1 encI (fun _ => rfl) [] (by kernel_rfl) (by rfl) ?_
  refine g_op (by kernel_rfl) (ot_append (T := 3) (sz := 1) (enc := encI) (ad := (some ⟨b1, 0, none⟩)) (cap := 0) (l := []) (ys := l) (ya := a) (yc := cp) (Y := X) 0 1 8 rl (by kernel_rfl) (by kernel_rfl) (by kernel_rfl) (fun _ => rfl) (by simp; omega) (by simp; omega) ?_)
  intro a1 c1
  refine g_adv 3 [] 2 [(2, .slice a1 ((l).length) c1)] (by kernel_rfl) ?_
  refine g_post (a1, c1) [0, 0, 0] [.slice a1 ((l).length) c1] (.tmp (by kernel_rfl) .nil) (by simp [resV, *]) (by kernel_rfl)

end Go.Proofs
