/- The walks of the layer calc: printed by a program of this repo (wip/gen). -/
import Derived.Test.YtkhkdedngnneiaaGreatWMode
import Derived.Test.YtkhkdedngnneiaaGreatModel
import Derived.Test.YtkhkdedngnneiaaGreatProg
namespace Go.Proofs
open Go Go.Sl Go.Lk
set_option maxRecDepth 20000
set_option linter.unusedVariables false

theorem c_calc_Known (k : Int) : Ct Tryz.prog 188 [vi k] [] (fun _ : Unit => vb (ckind k)) (fun _ => []) := by
  refine ct_intro Tryz.f188 9 Tryz.func188 rfl rfl rfl (fun E R => ?_)
  refine g_adv 9 [.o 6 3, .c 7] 1 [(0, vi k), (5, vb (decide (k ≥ 0)))] (by kernel_rfl) ?_
  refine g_bool 5 (decide (k ≥ 0)) (by kernel_rfl) (fun h1 => ?_) (fun h1 => ?_)
  · have h1p : k ≥ 0 := of_decide_eq_true h1
    refine g_adv 6 [] 2 [(2, vb (decide (k ≤ 8)))] (by kernel_rfl) ?_
    refine g_post () [0] [vb (decide (k ≤ 8))] (.tmp (by kernel_rfl) .nil) (by simp [resV, ckind, *]) (by kernel_rfl)
  · have h1p : ¬ (k ≥ 0) := of_decide_eq_false h1
    refine g_adv 6 [] 2 [(2, vb false)] (by kernel_rfl) ?_
    refine g_post () [0] [vb false] (.tmp (by kernel_rfl) .nil) (by simp [resV, ckind, *]) (by kernel_rfl)

theorem c_calc_bit (so : Bool) : Ct Tryz.prog 198 [vb so] [] (fun _ : Unit => vi (bit so)) (fun _ => []) := by
  refine ct_intro Tryz.f198 4 Tryz.func198 rfl rfl rfl (fun E R => ?_)
  refine g_adv 9 [.c 13, .c 7] 1 [(3, vb so)] (by kernel_rfl) ?_
  refine g_cond so (by kernel_rfl) (fun h1 => ?_) (fun h1 => ?_)
  · have h1p : so = true := h1
    refine g_adv 5 [] 2 [(2, vi 1)] (by kernel_rfl) ?_
    refine g_post () [0] [vi 1] (.tmp (by kernel_rfl) .nil) (by simp [resV, bit, *]) (by kernel_rfl)
  · have h1p : so = false := h1
    refine g_adv 6 [] 2 [(2, vi 0)] (by kernel_rfl) ?_
    refine g_post () [0] [vi 0] (.tmp (by kernel_rfl) .nil) (by simp [resV, bit, *]) (by kernel_rfl)

theorem c_calc_folds (k : Int) (was : Int) (n : Int) : Ct Tryz.prog 200 [vi k, vi was, vi n] [] (fun _ : Unit => vi (folds k was n)) (fun _ => []) := by
  refine ct_intro Tryz.f200 41 Tryz.func200 rfl rfl rfl (fun E R => ?_)
  refine g_adv 15 [.c 53, .b 0, .c 7] 1 [(1, vi was), (2, vi n), (7, vi k), (8, vb (k == 0))] (by kernel_rfl) ?_
  refine g_cond (k == 0) (by kernel_rfl) (fun h1 => ?_) (fun h1 => ?_)
  · have h1p : k = 0 := eq_of_beq h1
    refine g_adv 5 [.o 212 3, .c 213] 1 [(12, vi (wI (was + n)))] (by kernel_rfl) ?_
    refine g_adv 3 [] 4 [(6, vi (wI (was + n)))] (by kernel_rfl) ?_
    refine g_post () [0] [vi (wI (was + n))] (.tmp (by kernel_rfl) .nil) (by simp [resV, folds, *]) (by kernel_rfl)
  · have h1p : k ≠ 0 := ne_of_beq_false h1
    refine g_adv 5 [.c 215] 1 [(1, vi was), (2, vi n), (7, vi k), (13, vb (k == 1))] (by kernel_rfl) ?_
    refine g_cond (k == 1) (by kernel_rfl) (fun h2 => ?_) (fun h2 => ?_)
    · have h2p : k = 1 := eq_of_beq h2
      refine g_adv 5 [.o 860 3, .c 861] 1 [(17, vi (wI (was - n)))] (by kernel_rfl) ?_
      refine g_adv 3 [] 4 [(6, vi (wI (was - n)))] (by kernel_rfl) ?_
      refine g_post () [0] [vi (wI (was - n))] (.tmp (by kernel_rfl) .nil) (by simp [resV, folds, *]) (by kernel_rfl)
    · have h2p : k ≠ 1 := ne_of_beq_false h2
      refine g_adv 5 [.c 863] 1 [(1, vi was), (2, vi n), (7, vi k), (18, vb (k == 2))] (by kernel_rfl) ?_
      refine g_cond (k == 2) (by kernel_rfl) (fun h3 => ?_) (fun h3 => ?_)
      · have h3p : k = 2 := eq_of_beq h3
        refine g_adv 5 [.o 3452 3, .c 3453] 1 [(22, vi (wI (was * n)))] (by kernel_rfl) ?_
        refine g_adv 3 [] 4 [(6, vi (wI (was * n)))] (by kernel_rfl) ?_
        refine g_post () [0] [vi (wI (was * n))] (.tmp (by kernel_rfl) .nil) (by simp [resV, folds, *]) (by kernel_rfl)
      · have h3p : k ≠ 2 := ne_of_beq_false h3
        refine g_adv 5 [.c 3455] 1 [(1, vi was), (2, vi n), (7, vi k), (23, vb (k == 5))] (by kernel_rfl) ?_
        refine g_cond (k == 5) (by kernel_rfl) (fun h4 => ?_) (fun h4 => ?_)
        · have h4p : k = 5 := eq_of_beq h4
          refine g_adv 8 [] 3 [(6, vi (iand was n))] (by kernel_rfl) ?_
          refine g_post () [0] [vi (iand was n)] (.tmp (by kernel_rfl) .nil) (by simp [resV, folds, *]) (by kernel_rfl)
        · have h4p : k ≠ 5 := ne_of_beq_false h4
          refine g_adv 5 [.c 13823] 1 [(1, vi was), (2, vi n), (7, vi k), (28, vb (k == 6))] (by kernel_rfl) ?_
          refine g_cond (k == 6) (by kernel_rfl) (fun h5 => ?_) (fun h5 => ?_)
          · have h5p : k = 6 := eq_of_beq h5
            refine g_adv 8 [] 3 [(6, vi (ior was n))] (by kernel_rfl) ?_
            refine g_post () [0] [vi (ior was n)] (.tmp (by kernel_rfl) .nil) (by simp [resV, folds, *]) (by kernel_rfl)
          · have h5p : k ≠ 6 := ne_of_beq_false h5
            refine g_adv 5 [.c 55295] 1 [(1, vi was), (2, vi n), (33, vb (k == 7))] (by kernel_rfl) ?_
            refine g_cond (k == 7) (by kernel_rfl) (fun h6 => ?_) (fun h6 => ?_)
            · have h6p : k = 7 := eq_of_beq h6
              refine g_adv 8 [] 3 [(6, vi (imax was n))] (by kernel_rfl) ?_
              refine g_post () [0] [vi (imax was n)] (.tmp (by kernel_rfl) .nil) (by simp [resV, folds, *]) (by kernel_rfl)
            · have h6p : k ≠ 7 := ne_of_beq_false h6
              refine g_adv 10 [] 3 [(6, vi (imin was n))] (by kernel_rfl) ?_
              refine g_post () [0] [vi (imin was n)] (.tmp (by kernel_rfl) .nil) (by simp [resV, folds, *]) (by kernel_rfl)

theorem c_calc_none (k : Int) : Ct Tryz.prog 197 [vi k] [] (fun _ : Unit => .tuple #[vi ((cnone k).1), vi ((cnone k).2)]) (fun _ => []) := by
  refine ct_intro Tryz.f197 14 Tryz.func197 rfl rfl rfl (fun E R => ?_)
  refine g_adv 17 [.c 105, .c 53, .b 0, .c 7] 1 [(4, vi k), (5, vb (k == 2))] (by kernel_rfl) ?_
  refine g_cond (k == 2) (by kernel_rfl) (fun h1 => ?_) (fun h1 => ?_)
  · have h1p : k = 2 := eq_of_beq h1
    refine g_adv 1 [] 1 [(4, vi k), (5, vb (k == 2))] (by kernel_rfl) ?_
    refine g_cond (k == 2) (by kernel_rfl) (fun _ => ?_) (fun h => absurd h (by simp [h1]))
    refine g_adv 6 [] 3 [(2, vi 1), (3, vi 0)] (by kernel_rfl) ?_
    refine g_post () [0] [vi 1, vi 0] (.tmp (by kernel_rfl) (.tmp (by kernel_rfl) .nil)) (by simp [resV, cnone, *]) (by kernel_rfl)
  · have h1p : k ≠ 2 := ne_of_beq_false h1
    refine g_adv 5 [.c 423] 1 [(4, vi k), (5, vb (k == 3))] (by kernel_rfl) ?_
    refine g_cond (k == 3) (by kernel_rfl) (fun h2 => ?_) (fun h2 => ?_)
    · have h2p : k = 3 := eq_of_beq h2
      refine g_adv 1 [] 1 [(4, vi k), (5, vb (k == 3))] (by kernel_rfl) ?_
      refine g_cond (k == 3) (by kernel_rfl) (fun _ => ?_) (fun h => absurd h (by simp [h2]))
      refine g_adv 6 [] 3 [(2, vi 1), (3, vi 0)] (by kernel_rfl) ?_
      refine g_post () [0] [vi 1, vi 0] (.tmp (by kernel_rfl) (.tmp (by kernel_rfl) .nil)) (by simp [resV, cnone, *]) (by kernel_rfl)
    · have h2p : k ≠ 3 := ne_of_beq_false h2
      refine g_adv 4 [] 1 [(4, vi k), (5, vb (k == 4))] (by kernel_rfl) ?_
      refine g_cond (k == 4) (by kernel_rfl) (fun h3 => ?_) (fun h3 => ?_)
      · have h3p : k = 4 := eq_of_beq h3
        refine g_adv 6 [] 3 [(2, vi 1), (3, vi 0)] (by kernel_rfl) ?_
        refine g_post () [0] [vi 1, vi 0] (.tmp (by kernel_rfl) (.tmp (by kernel_rfl) .nil)) (by simp [resV, cnone, *]) (by kernel_rfl)
      · have h3p : k ≠ 4 := ne_of_beq_false h3
        refine g_adv 5 [.c 215] 1 [(4, vi k), (9, vb (k == 5))] (by kernel_rfl) ?_
        refine g_cond (k == 5) (by kernel_rfl) (fun h4 => ?_) (fun h4 => ?_)
        · have h4p : k = 5 := eq_of_beq h4
          refine g_adv 6 [] 3 [(2, vi (-1)), (3, vi 0)] (by kernel_rfl) ?_
          refine g_post () [0] [vi (-1), vi 0] (.tmp (by kernel_rfl) (.tmp (by kernel_rfl) .nil)) (by simp [resV, cnone, *]) (by kernel_rfl)
        · have h4p : k ≠ 5 := ne_of_beq_false h4
          refine g_adv 6 [.c 1725, .c 863] 1 [(4, vi k), (11, vb (k == 7))] (by kernel_rfl) ?_
          refine g_cond (k == 7) (by kernel_rfl) (fun h5 => ?_) (fun h5 => ?_)
          · have h5p : k = 7 := eq_of_beq h5
            refine g_adv 1 [] 1 [(11, vb (k == 7))] (by kernel_rfl) ?_
            refine g_cond (k == 7) (by kernel_rfl) (fun _ => ?_) (fun h => absurd h (by simp [h5]))
            refine g_adv 6 [] 3 [(2, vi 0), (3, vi 1)] (by kernel_rfl) ?_
            refine g_post () [0] [vi 0, vi 1] (.tmp (by kernel_rfl) (.tmp (by kernel_rfl) .nil)) (by simp [resV, cnone, *]) (by kernel_rfl)
          · have h5p : k ≠ 7 := ne_of_beq_false h5
            refine g_adv 4 [] 1 [(11, vb (k == 8))] (by kernel_rfl) ?_
            refine g_cond (k == 8) (by kernel_rfl) (fun h6 => ?_) (fun h6 => ?_)
            · have h6p : k = 8 := eq_of_beq h6
              refine g_adv 6 [] 3 [(2, vi 0), (3, vi 1)] (by kernel_rfl) ?_
              refine g_post () [0] [vi 0, vi 1] (.tmp (by kernel_rfl) (.tmp (by kernel_rfl) .nil)) (by simp [resV, cnone, *]) (by kernel_rfl)
            · have h6p : k ≠ 8 := ne_of_beq_false h6
              refine g_adv 8 [] 3 [(2, vi 0), (3, vi 0)] (by kernel_rfl) ?_
              refine g_post () [0] [vi 0, vi 0] (.tmp (by kernel_rfl) (.tmp (by kernel_rfl) .nil)) (by simp [resV, cnone, *]) (by kernel_rfl)

theorem c_calc_chain (k : Int) (a : Option Addr) (cp : Nat) (l : List Int) (X : SP) (rl : Reads X 1 encI a l) (hl : l.length ≤ 1099511627776) : Ct Tryz.prog 199 [vi k, .slice a l.length cp] [.sp X] (fun _ : Unit => vb (chainB k l)) (fun _ => [.sp X]) := by
  refine ct_intro Tryz.f199 42 Tryz.func199 rfl rfl rfl (fun E R => ?_)
  refine g_adv 10 [.c 26, .b 0, .c 7] 1 [(0, vi k), (1, .slice a l.length cp), (5, vi 1)] (by kernel_rfl) ?_
  refine g_loop' (fun (x : { x : Nat // match x with | i => (i = 0 ∨ i + 1 ≤ l.length) ∧ chainB k (l.take (i + 1)) = true }) => match x.1 with | i => ([(0, vi k), (1, .slice a l.length cp), (5, vi ((i + 1 : Nat) : Int))], [.sp X, .sp R])) (fun (x : { x : Nat // match x with | i => (i = 0 ∨ i + 1 ≤ l.length) ∧ chainB k (l.take (i + 1)) = true }) => match x.1 with | i => l.length - i) ⟨0, by exact ⟨by omega, by cases l <;> simp [chainB]⟩⟩ [0, 0] (by kernel_rfl) (by kernel_rfl) (by kernel_rfl) ?_
  rintro ⟨i, hi1⟩
  have hi1 : (i = 0 ∨ i + 1 ≤ l.length) ∧ chainB k (l.take (i + 1)) = true := hi1
  obtain ⟨hi1_0, hi1_1⟩ := hi1
  refine g_adv 8 [.c 209, .c 105] 1 [(0, vi k), (1, .slice a l.length cp), (5, vi ((i + 1 : Nat) : Int)), (9, vb (decide (((i + 1 : Nat) : Int) < (l.length : Int))))] (by kernel_rfl) ?_
  refine g_cond (decide (((i + 1 : Nat) : Int) < (l.length : Int))) (by kernel_rfl) (fun h1 => ?_) (fun h1 => ?_)
  · have h1p : ((i + 1 : Nat) : Int) < (l.length : Int) := of_decide_eq_true h1
    refine g_adv 4 [.c 840, .c 841, .b 1, .c 211] 2 [(0, vi k), (1, .slice a l.length cp), (5, vi ((i + 1 : Nat) : Int))] (by kernel_rfl) ?_
    refine d_start (by kernel_rfl) (by kernel_rfl) ?_
    rcases Bool.eq_false_or_eq_true (k == 3) with h2 | h2
    · have h2p : k = 3 := eq_of_beq h2
      refine d_some 0 rl (by kernel_rfl) (by omega) ?_
      rintro b1 o1 rfl
      obtain ⟨x1, hx1⟩ : ∃ x, l[i]? = some x := ⟨_, List.getElem?_eq_getElem (by omega)⟩
      obtain ⟨x2, hx2⟩ : ∃ x, l[i + 1]? = some x := ⟨_, List.getElem?_eq_getElem (by omega)⟩
      rcases Bool.eq_false_or_eq_true (decide (x1 ≥ x2)) with h3 | h3
      · have h3p : x1 ≥ x2 := of_decide_eq_true h3
        refine d_end [(0, vi k), (1, vb true), (2, vb true), (3, .slice (some ⟨b1, o1, none⟩) l.length cp), (4, vi ((i + 1 : Nat) : Int)), (5, vi (i : Int)), (6, pt b1 (o1 + i * 1)), (7, vi x1), (8, .slice (some ⟨b1, o1, none⟩) l.length cp), (9, vi ((i + 1 : Nat) : Int)), (10, pt b1 (o1 + (i + 1) * 1)), (11, vi x2), (12, vb true), (13, vb true), (14, vb true), (15, undef), (16, undef), (17, undef), (18, undef), (19, undef), (20, undef), (21, undef), (22, undef), (23, undef), (24, undef), (25, undef), (26, undef), (27, undef), (28, undef), (29, vb true)] [(0, vi k), (1, .slice (some ⟨b1, o1, none⟩) l.length cp), (5, vi ((i + 1 : Nat) : Int)), (41, vb true)] (by kernel_rfl) (.plainN 1 (by kernel_rfl) (.one _ _ (evOK_eq (v := vb (k == 3)) (congrArg Value.bool h2) (evOK_pure (by kernel_rfl))) (.plainN 3 (by kernel_rfl) (.one _ _ (evOK_eq (v := vi (wI (((i + 1 : Nat) : Int) - 1))) (wI_eq (by omega) (by omega) (by omega)) (evOK_pure (by kernel_rfl))) (.one _ _ (evOK_at (by kernel_rfl) (run_ix b1 o1 l.length cp (i : Int) 1 (by kernel_rfl) (by omega) (by omega))) (.one _ _ (evOK_loadS 0 b1 o1 i 0 (o1 + i * 1) _ rl (by kernel_rfl) (by kernel_rfl) (by rfl) hx1 (by rfl)) (.plainN 2 (by kernel_rfl) (.one _ _ (evOK_at (by kernel_rfl) (run_ix b1 o1 l.length cp ((i + 1 : Nat) : Int) 1 (by kernel_rfl) (by omega) (by omega))) (.one _ _ (evOK_loadS 0 b1 o1 (i + 1) 0 (o1 + (i + 1) * 1) _ rl (by kernel_rfl) (by kernel_rfl) (by rfl) hx2 (by rfl)) (.one _ _ (evOK_eq (v := vb (decide (x1 ≥ x2))) (congrArg Value.bool h3) (evOK_pure (by kernel_rfl))) (.plainN 17 (by kernel_rfl) .nil))))))))))) (by kernel_rfl) ?_
        refine g_adv 6 [] 6 [(4, vb false)] (by kernel_rfl) ?_
        refine g_post () [0, 0] [vb false] (.tmp (by kernel_rfl) .nil) (by first | (rw [chain_bad (i := i + 2) (by rw [chain_step hx1 hx2, hi1_1]; first | (simp [h2, h3]; done) | (simp [h2, h3, h4, h5]; done) | (simp [h2, h3, h4]; done))]; rfl) | (rw [chain_end hi1_1 h1p]; rfl)) (by kernel_rfl)
      · have h3p : ¬ (x1 ≥ x2) := of_decide_eq_false h3
        rcases Bool.eq_false_or_eq_true (k == 4) with h4 | h4
        · have h4p : k = 4 := eq_of_beq h4
          refine d_end [(0, vi k), (1, vb true), (2, vb true), (3, .slice (some ⟨b1, o1, none⟩) l.length cp), (4, vi ((i + 1 : Nat) : Int)), (5, vi (i : Int)), (6, pt b1 (o1 + i * 1)), (7, vi x1), (8, .slice (some ⟨b1, o1, none⟩) l.length cp), (9, vi ((i + 1 : Nat) : Int)), (10, pt b1 (o1 + (i + 1) * 1)), (11, vi x2), (12, vb false), (13, vb false), (14, vb false), (15, vi k), (16, vb true), (17, vb true), (18, .slice (some ⟨b1, o1, none⟩) l.length cp), (19, vi ((i + 1 : Nat) : Int)), (20, vi (i : Int)), (21, pt b1 (o1 + i * 1)), (22, vi x1), (23, .slice (some ⟨b1, o1, none⟩) l.length cp), (24, vi ((i + 1 : Nat) : Int)), (25, pt b1 (o1 + (i + 1) * 1)), (26, vi x2), (27, vb (x1 != x2)), (28, vb (x1 != x2)), (29, vb (x1 != x2))] [(0, vi k), (1, .slice (some ⟨b1, o1, none⟩) l.length cp), (5, vi ((i + 1 : Nat) : Int)), (41, vb (x1 != x2))] (by kernel_rfl) (.plainN 1 (by kernel_rfl) (.one _ _ (evOK_eq (v := vb (k == 3)) (congrArg Value.bool h2) (evOK_pure (by kernel_rfl))) (.plainN 3 (by kernel_rfl) (.one _ _ (evOK_eq (v := vi (wI (((i + 1 : Nat) : Int) - 1))) (wI_eq (by omega) (by omega) (by omega)) (evOK_pure (by kernel_rfl))) (.one _ _ (evOK_at (by kernel_rfl) (run_ix b1 o1 l.length cp (i : Int) 1 (by kernel_rfl) (by omega) (by omega))) (.one _ _ (evOK_loadS 0 b1 o1 i 0 (o1 + i * 1) _ rl (by kernel_rfl) (by kernel_rfl) (by rfl) hx1 (by rfl)) (.plainN 2 (by kernel_rfl) (.one _ _ (evOK_at (by kernel_rfl) (run_ix b1 o1 l.length cp ((i + 1 : Nat) : Int) 1 (by kernel_rfl) (by omega) (by omega))) (.one _ _ (evOK_loadS 0 b1 o1 (i + 1) 0 (o1 + (i + 1) * 1) _ rl (by kernel_rfl) (by kernel_rfl) (by rfl) hx2 (by rfl)) (.one _ _ (evOK_eq (v := vb (decide (x1 ≥ x2))) (congrArg Value.bool h3) (evOK_pure (by kernel_rfl))) (.plainN 3 (by kernel_rfl) (.one _ _ (evOK_eq (v := vb (k == 4)) (congrArg Value.bool h4) (evOK_pure (by kernel_rfl))) (.plainN 3 (by kernel_rfl) (.one _ _ (evOK_eq (v := vi (wI (((i + 1 : Nat) : Int) - 1))) (wI_eq (by omega) (by omega) (by omega)) (evOK_pure (by kernel_rfl))) (.one _ _ (evOK_at (by kernel_rfl) (run_ix b1 o1 l.length cp (i : Int) 1 (by kernel_rfl) (by omega) (by omega))) (.one _ _ (evOK_loadS 0 b1 o1 i 0 (o1 + i * 1) _ rl (by kernel_rfl) (by kernel_rfl) (by rfl) hx1 (by rfl)) (.plainN 2 (by kernel_rfl) (.one _ _ (evOK_at (by kernel_rfl) (run_ix b1 o1 l.length cp ((i + 1 : Nat) : Int) 1 (by kernel_rfl) (by omega) (by omega))) (.one _ _ (evOK_loadS 0 b1 o1 (i + 1) 0 (o1 + (i + 1) * 1) _ rl (by kernel_rfl) (by kernel_rfl) (by rfl) hx2 (by rfl)) (.plainN 3 (by kernel_rfl) .nil)))))))))))))))))))) (by kernel_rfl) ?_
          refine g_cond (x1 != x2) (by kernel_rfl) (fun h5 => ?_) (fun h5 => ?_)
          · have h5p : x1 ≠ x2 := bne_iff_ne.1 h5
            refine g_adv 5 [] 6 [(4, vb false)] (by kernel_rfl) ?_
            refine g_post () [0, 0] [vb false] (.tmp (by kernel_rfl) .nil) (by first | (rw [chain_bad (i := i + 2) (by rw [chain_step hx1 hx2, hi1_1]; first | (simp [h2, h3]; done) | (simp [h2, h3, h4, h5]; done) | (simp [h2, h3, h4]; done))]; rfl) | (rw [chain_end hi1_1 h1p]; rfl)) (by kernel_rfl)
          · have h5p : x1 = x2 := (by simpa using h5)
            refine g_adv 5 [.o 211 2] 3 [(0, vi k), (1, .slice (some ⟨b1, o1, none⟩) l.length cp), (11, vi (wI (((i + 1 : Nat) : Int) + 1)))] (by kernel_rfl) ?_
            refine g_val 11 (vi (wI (((i + 1 : Nat) : Int) + 1))) (vi ((i + 1 + 1 : Nat) : Int)) (wI_eq (by omega) (by omega) (by omega)) (by kernel_rfl) ?_
            refine g_adv 2 [] 1 [(0, vi k), (1, .slice (some ⟨b1, o1, none⟩) l.length cp), (5, vi ((i + 1 + 1 : Nat) : Int))] (by kernel_rfl) ?_
            refine g_round ⟨i + 1, by first | exact ⟨by omega, chain_skip h2 h3 h1p hi1_1⟩ | exact ⟨by omega, by rw [chain_step hx1 hx2, hi1_1]; first | (simp [h2, h3]; done) | (simp [h2, h3, h4]; done) | (simp [h2, h3, h4, h5]; done)⟩⟩ [0, 0] (by simp; omega) (by kernel_rfl) (by kernel_rfl)
        · have h4p : k ≠ 4 := ne_of_beq_false h4
          refine d_end [(0, vi k), (1, vb true), (2, vb true), (3, .slice (some ⟨b1, o1, none⟩) l.length cp), (4, vi ((i + 1 : Nat) : Int)), (5, vi (i : Int)), (6, pt b1 (o1 + i * 1)), (7, vi x1), (8, .slice (some ⟨b1, o1, none⟩) l.length cp), (9, vi ((i + 1 : Nat) : Int)), (10, pt b1 (o1 + (i + 1) * 1)), (11, vi x2), (12, vb false), (13, vb false), (14, vb false), (15, vi k), (16, vb false), (17, vb false), (18, undef), (19, undef), (20, undef), (21, undef), (22, undef), (23, undef), (24, undef), (25, undef), (26, undef), (27, undef), (28, vb false), (29, vb false)] [(0, vi k), (1, .slice (some ⟨b1, o1, none⟩) l.length cp), (5, vi ((i + 1 : Nat) : Int)), (41, vb false)] (by kernel_rfl) (.plainN 1 (by kernel_rfl) (.one _ _ (evOK_eq (v := vb (k == 3)) (congrArg Value.bool h2) (evOK_pure (by kernel_rfl))) (.plainN 3 (by kernel_rfl) (.one _ _ (evOK_eq (v := vi (wI (((i + 1 : Nat) : Int) - 1))) (wI_eq (by omega) (by omega) (by omega)) (evOK_pure (by kernel_rfl))) (.one _ _ (evOK_at (by kernel_rfl) (run_ix b1 o1 l.length cp (i : Int) 1 (by kernel_rfl) (by omega) (by omega))) (.one _ _ (evOK_loadS 0 b1 o1 i 0 (o1 + i * 1) _ rl (by kernel_rfl) (by kernel_rfl) (by rfl) hx1 (by rfl)) (.plainN 2 (by kernel_rfl) (.one _ _ (evOK_at (by kernel_rfl) (run_ix b1 o1 l.length cp ((i + 1 : Nat) : Int) 1 (by kernel_rfl) (by omega) (by omega))) (.one _ _ (evOK_loadS 0 b1 o1 (i + 1) 0 (o1 + (i + 1) * 1) _ rl (by kernel_rfl) (by kernel_rfl) (by rfl) hx2 (by rfl)) (.one _ _ (evOK_eq (v := vb (decide (x1 ≥ x2))) (congrArg Value.bool h3) (evOK_pure (by kernel_rfl))) (.plainN 3 (by kernel_rfl) (.one _ _ (evOK_eq (v := vb (k == 4)) (congrArg Value.bool h4) (evOK_pure (by kernel_rfl))) (.plainN 13 (by kernel_rfl) .nil))))))))))))) (by kernel_rfl) ?_
          refine g_adv 6 [.o 211 2] 3 [(0, vi k), (1, .slice (some ⟨b1, o1, none⟩) l.length cp), (11, vi (wI (((i + 1 : Nat) : Int) + 1)))] (by kernel_rfl) ?_
          refine g_val 11 (vi (wI (((i + 1 : Nat) : Int) + 1))) (vi ((i + 1 + 1 : Nat) : Int)) (wI_eq (by omega) (by omega) (by omega)) (by kernel_rfl) ?_
          refine g_adv 2 [] 1 [(0, vi k), (1, .slice (some ⟨b1, o1, none⟩) l.length cp), (5, vi ((i + 1 + 1 : Nat) : Int))] (by kernel_rfl) ?_
          refine g_round ⟨i + 1, by first | exact ⟨by omega, chain_skip h2 h3 h1p hi1_1⟩ | exact ⟨by omega, by rw [chain_step hx1 hx2, hi1_1]; first | (simp [h2, h3]; done) | (simp [h2, h3, h4]; done) | (simp [h2, h3, h4, h5]; done)⟩⟩ [0, 0] (by simp; omega) (by kernel_rfl) (by kernel_rfl)
    · have h2p : k ≠ 3 := ne_of_beq_false h2
      rcases Bool.eq_false_or_eq_true (k == 4) with h3 | h3
      · have h3p : k = 4 := eq_of_beq h3
        refine d_some 0 rl (by kernel_rfl) (by omega) ?_
        rintro b1 o1 rfl
        obtain ⟨x1, hx1⟩ : ∃ x, l[i]? = some x := ⟨_, List.getElem?_eq_getElem (by omega)⟩
        obtain ⟨x2, hx2⟩ : ∃ x, l[i + 1]? = some x := ⟨_, List.getElem?_eq_getElem (by omega)⟩
        refine d_end [(0, vi k), (1, vb false), (2, vb false), (3, undef), (4, undef), (5, undef), (6, undef), (7, undef), (8, undef), (9, undef), (10, undef), (11, undef), (12, undef), (13, vb false), (14, vb false), (15, vi k), (16, vb true), (17, vb true), (18, .slice (some ⟨b1, o1, none⟩) l.length cp), (19, vi ((i + 1 : Nat) : Int)), (20, vi (i : Int)), (21, pt b1 (o1 + i * 1)), (22, vi x1), (23, .slice (some ⟨b1, o1, none⟩) l.length cp), (24, vi ((i + 1 : Nat) : Int)), (25, pt b1 (o1 + (i + 1) * 1)), (26, vi x2), (27, vb (x1 != x2)), (28, vb (x1 != x2)), (29, vb (x1 != x2))] [(0, vi k), (1, .slice (some ⟨b1, o1, none⟩) l.length cp), (5, vi ((i + 1 : Nat) : Int)), (41, vb (x1 != x2))] (by kernel_rfl) (.plainN 1 (by kernel_rfl) (.one _ _ (evOK_eq (v := vb (k == 3)) (congrArg Value.bool h2) (evOK_pure (by kernel_rfl))) (.plainN 14 (by kernel_rfl) (.one _ _ (evOK_eq (v := vb (k == 4)) (congrArg Value.bool h3) (evOK_pure (by kernel_rfl))) (.plainN 3 (by kernel_rfl) (.one _ _ (evOK_eq (v := vi (wI (((i + 1 : Nat) : Int) - 1))) (wI_eq (by omega) (by omega) (by omega)) (evOK_pure (by kernel_rfl))) (.one _ _ (evOK_at (by kernel_rfl) (run_ix b1 o1 l.length cp (i : Int) 1 (by kernel_rfl) (by omega) (by omega))) (.one _ _ (evOK_loadS 0 b1 o1 i 0 (o1 + i * 1) _ rl (by kernel_rfl) (by kernel_rfl) (by rfl) hx1 (by rfl)) (.plainN 2 (by kernel_rfl) (.one _ _ (evOK_at (by kernel_rfl) (run_ix b1 o1 l.length cp ((i + 1 : Nat) : Int) 1 (by kernel_rfl) (by omega) (by omega))) (.one _ _ (evOK_loadS 0 b1 o1 (i + 1) 0 (o1 + (i + 1) * 1) _ rl (by kernel_rfl) (by kernel_rfl) (by rfl) hx2 (by rfl)) (.plainN 3 (by kernel_rfl) .nil)))))))))))) (by kernel_rfl) ?_
        refine g_cond (x1 != x2) (by kernel_rfl) (fun h4 => ?_) (fun h4 => ?_)
        · have h4p : x1 ≠ x2 := bne_iff_ne.1 h4
          refine g_adv 5 [] 6 [(4, vb false)] (by kernel_rfl) ?_
          refine g_post () [0, 0] [vb false] (.tmp (by kernel_rfl) .nil) (by first | (rw [chain_bad (i := i + 2) (by rw [chain_step hx1 hx2, hi1_1]; first | (simp [h2, h3]; done) | (simp [h2, h3, h4, h5]; done) | (simp [h2, h3, h4]; done))]; rfl) | (rw [chain_end hi1_1 h1p]; rfl)) (by kernel_rfl)
        · have h4p : x1 = x2 := (by simpa using h4)
          refine g_adv 5 [.o 211 2] 3 [(0, vi k), (1, .slice (some ⟨b1, o1, none⟩) l.length cp), (11, vi (wI (((i + 1 : Nat) : Int) + 1)))] (by kernel_rfl) ?_
          refine g_val 11 (vi (wI (((i + 1 : Nat) : Int) + 1))) (vi ((i + 1 + 1 : Nat) : Int)) (wI_eq (by omega) (by omega) (by omega)) (by kernel_rfl) ?_
          refine g_adv 2 [] 1 [(0, vi k), (1, .slice (some ⟨b1, o1, none⟩) l.length cp), (5, vi ((i + 1 + 1 : Nat) : Int))] (by kernel_rfl) ?_
          refine g_round ⟨i + 1, by first | exact ⟨by omega, chain_skip h2 h3 h1p hi1_1⟩ | exact ⟨by omega, by rw [chain_step hx1 hx2, hi1_1]; first | (simp [h2, h3]; done) | (simp [h2, h3, h4]; done) | (simp [h2, h3, h4, h5]; done)⟩⟩ [0, 0] (by simp; omega) (by kernel_rfl) (by kernel_rfl)
      · have h3p : k ≠ 4 := ne_of_beq_false h3
        refine d_end [(0, vi k), (1, vb false), (2, vb false), (3, undef), (4, undef), (5, undef), (6, undef), (7, undef), (8, undef), (9, undef), (10, undef), (11, undef), (12, undef), (13, vb false), (14, vb false), (15, vi k), (16, vb false), (17, vb false), (18, undef), (19, undef), (20, undef), (21, undef), (22, undef), (23, undef), (24, undef), (25, undef), (26, undef), (27, undef), (28, vb false), (29, vb false)] [(0, vi k), (1, .slice a l.length cp), (5, vi ((i + 1 : Nat) : Int)), (41, vb false)] (by kernel_rfl) (.plainN 1 (by kernel_rfl) (.one _ _ (evOK_eq (v := vb (k == 3)) (congrArg Value.bool h2) (evOK_pure (by kernel_rfl))) (.plainN 14 (by kernel_rfl) (.one _ _ (evOK_eq (v := vb (k == 4)) (congrArg Value.bool h3) (evOK_pure (by kernel_rfl))) (.plainN 13 (by kernel_rfl) .nil))))) (by kernel_rfl) ?_
        refine g_adv 6 [.o 211 2] 3 [(0, vi k), (1, .slice a l.length cp), (11, vi (wI (((i + 1 : Nat) : Int) + 1)))] (by kernel_rfl) ?_
        refine g_val 11 (vi (wI (((i + 1 : Nat) : Int) + 1))) (vi ((i + 1 + 1 : Nat) : Int)) (wI_eq (by omega) (by omega) (by omega)) (by kernel_rfl) ?_
        refine g_adv 2 [] 1 [(0, vi k), (1, .slice a l.length cp), (5, vi ((i + 1 + 1 : Nat) : Int))] (by kernel_rfl) ?_
        refine g_round ⟨i + 1, by first | exact ⟨by omega, chain_skip h2 h3 h1p hi1_1⟩ | exact ⟨by omega, by rw [chain_step hx1 hx2, hi1_1]; first | (simp [h2, h3]; done) | (simp [h2, h3, h4]; done) | (simp [h2, h3, h4, h5]; done)⟩⟩ [0, 0] (by simp; omega) (by kernel_rfl) (by kernel_rfl)
  · have h1p : ¬ (((i + 1 : Nat) : Int) < (l.length : Int)) := of_decide_eq_false h1
    refine g_adv 6 [] 5 [(4, vb true)] (by kernel_rfl) ?_
    refine g_post () [0, 0] [vb true] (.tmp (by kernel_rfl) .nil) (by first | (rw [chain_bad (i := i + 2) (by rw [chain_step hx1 hx2, hi1_1]; first | (simp [h2, h3]; done) | (simp [h2, h3, h4, h5]; done) | (simp [h2, h3, h4]; done))]; rfl) | (rw [chain_end hi1_1 h1p]; rfl)) (by kernel_rfl)

theorem c_calc_Eval (k : Int) (a : Option Addr) (cp : Nat) (l : List Int) (X : SP) (rl : Reads X 1 encI a l) (hl : l.length ≤ 1099511627776) (hcp : l.length ≤ cp) : Ct Tryz.prog 150 [vi k, .slice a l.length cp] [.sp X] (fun _ : Unit => .tuple #[vi ((eval k l).1), vi ((eval k l).2)]) (fun _ => [.sp X]) := by
  refine ct_intro Tryz.f150 48 Tryz.func150 rfl rfl rfl (fun E R => ?_)
  refine g_adv 10 [.o 24 1, .c 25, .b 0, .c 7] 1 [(0, vi k), (1, .slice a l.length cp), (10, vi k)] (by kernel_rfl) ?_
  refine g_op (by kernel_rfl) (ot_call [] (c_calc_Known k) (by kernel_rfl) (by kernel_rfl) ?_)
  intro _
  refine g_adv 3 [] 1 [(0, vi k), (1, .slice a l.length cp), (9, vb (!(ckind k)))] (by kernel_rfl) ?_
  refine g_cond (!(ckind k)) (by kernel_rfl) (fun h1 => ?_) (fun h1 => ?_)
  · have h1p : ckind k = false := (show (ckind k) = false by simpa using h1)
    refine g_adv 6 [] 3 [(4, vi 0), (5, vi 1)] (by kernel_rfl) ?_
    refine g_post () [0, 0] [vi 0, vi 1] (.tmp (by kernel_rfl) (.tmp (by kernel_rfl) .nil)) (by first | (rw [eval_bad (by simpa using h1)]; rfl) | (rw [eval_nil (by simpa using h1) (by omega)]; rfl) | (rw [eval_chain (by simpa using h1) (by omega) (by simp [*])]; rfl) | (rw [eval_fold (by simpa using h1) hx1 (by simp [*]), hi1_1, List.take_of_length_le (by omega)]; rfl)) (by kernel_rfl)
  · have h1p : ckind k = true := (show (ckind k) = true by simpa using h1)
    refine g_adv 7 [.c 103] 1 [(0, vi k), (1, .slice a l.length cp), (13, vb ((l.length : Int) == 0))] (by kernel_rfl) ?_
    refine g_cond ((l.length : Int) == 0) (by kernel_rfl) (fun h2 => ?_) (fun h2 => ?_)
    · have h2p : (l.length : Int) = 0 := eq_of_beq h2
      refine g_adv 3 [.o 412 1, .c 413] 1 [(17, vi k)] (by kernel_rfl) ?_
      refine g_op (by kernel_rfl) (ot_call [] (c_calc_none k) (by kernel_rfl) (by kernel_rfl) ?_)
      intro _
      refine g_adv 6 [] 4 [(4, vi ((cnone k).1)), (5, vi ((cnone k).2))] (by kernel_rfl) ?_
      refine g_post () [0, 0] [vi ((cnone k).1), vi ((cnone k).2)] (.tmp (by kernel_rfl) (.tmp (by kernel_rfl) .nil)) (by first | (rw [eval_bad (by simpa using h1)]; rfl) | (rw [eval_nil (by simpa using h1) (by omega)]; rfl) | (rw [eval_chain (by simpa using h1) (by omega) (by simp [*])]; rfl) | (rw [eval_fold (by simpa using h1) hx1 (by simp [*]), hi1_1, List.take_of_length_le (by omega)]; rfl)) (by kernel_rfl)
    · have h2p : (l.length : Int) ≠ 0 := ne_of_beq_false h2
      refine g_adv 5 [.o 414 3, .c 415] 1 [(0, vi k), (1, .slice a l.length cp), (24, vb (k == 3))] (by kernel_rfl) ?_
      refine g_bool 24 (k == 3) (by kernel_rfl) (fun h3 => ?_) (fun h3 => ?_)
      · have h3p : k = 3 := eq_of_beq h3
        refine g_adv 10 [.o 1660 2, .c 1661] 2 [(28, vi k), (29, .slice a l.length cp)] (by kernel_rfl) ?_
        refine g_op (by kernel_rfl) (ot_call [0] (c_calc_chain k a cp l X rl (by first | omega | assumption | (simp; done) | (simp; omega))) (by kernel_rfl) (by kernel_rfl) ?_)
        intro _
        refine g_op (by kernel_rfl) (ot_call [] (c_calc_bit (chainB k l)) (by kernel_rfl) (by kernel_rfl) ?_)
        intro _
        refine g_adv 4 [] 4 [(4, vi (bit (chainB k l))), (5, vi 0)] (by kernel_rfl) ?_
        refine g_post () [0, 0] [vi (bit (chainB k l)), vi 0] (.tmp (by kernel_rfl) (.tmp (by kernel_rfl) .nil)) (by first | (rw [eval_bad (by simpa using h1)]; rfl) | (rw [eval_nil (by simpa using h1) (by omega)]; rfl) | (rw [eval_chain (by simpa using h1) (by omega) (by simp [*])]; rfl) | (rw [eval_fold (by simpa using h1) hx1 (by simp [*]), hi1_1, List.take_of_length_le (by omega)]; rfl)) (by kernel_rfl)
      · have h3p : k ≠ 3 := ne_of_beq_false h3
        refine g_adv 5 [] 1 [(0, vi k), (1, .slice a l.length cp), (21, vb (k == 4))] (by kernel_rfl) ?_
        refine g_cond (k == 4) (by kernel_rfl) (fun h4 => ?_) (fun h4 => ?_)
        · have h4p : k = 4 := eq_of_beq h4
          refine g_adv 4 [.o 1660 2, .c 1661] 1 [(28, vi k), (29, .slice a l.length cp)] (by kernel_rfl) ?_
          refine g_op (by kernel_rfl) (ot_call [0] (c_calc_chain k a cp l X rl (by first | omega | assumption | (simp; done) | (simp; omega))) (by kernel_rfl) (by kernel_rfl) ?_)
          intro _
          refine g_op (by kernel_rfl) (ot_call [] (c_calc_bit (chainB k l)) (by kernel_rfl) (by kernel_rfl) ?_)
          intro _
          refine g_adv 4 [] 4 [(4, vi (bit (chainB k l))), (5, vi 0)] (by kernel_rfl) ?_
          refine g_post () [0, 0] [vi (bit (chainB k l)), vi 0] (.tmp (by kernel_rfl) (.tmp (by kernel_rfl) .nil)) (by first | (rw [eval_bad (by simpa using h1)]; rfl) | (rw [eval_nil (by simpa using h1) (by omega)]; rfl) | (rw [eval_chain (by simpa using h1) (by omega) (by simp [*])]; rfl) | (rw [eval_fold (by simpa using h1) hx1 (by simp [*]), hi1_1, List.take_of_length_le (by omega)]; rfl)) (by kernel_rfl)
        · have h4p : k ≠ 4 := ne_of_beq_false h4
          refine g_adv 5 [.o 14 1, .c 15] 3 [(0, vi k), (1, .slice a l.length cp), (32, .slice a l.length cp)] (by kernel_rfl) ?_
          refine g_some 0 rl (by kernel_rfl) (by omega) ?_
          rintro b1 o1 rfl
          refine g_op (by kernel_rfl) (ot_val (pt b1 (o1 + 0 * 1)) (run_ix b1 o1 l.length cp 0 1 (by kernel_rfl) (by omega) (by omega)) ?_)
          obtain ⟨x1, hx1⟩ : ∃ x, l[0]? = some x := ⟨_, List.getElem?_eq_getElem (by omega)⟩
          refine g_op (by kernel_rfl) (ot_loadS 0 b1 o1 0 0 (o1 + 0 * 1) (vi x1) rl (by kernel_rfl) (by kernel_rfl) (by rfl) hx1 (by rfl) ?_)
          refine g_adv 6 [.o 60 1, .c 61, .c 31] 2 [(0, vi k), (6, vi x1), (35, .slice (some ⟨b1, o1, none⟩) l.length cp)] (by kernel_rfl) ?_
          refine g_op (by kernel_rfl) (ot_slR (some (vi 1)) none 1 l.length (by kernel_rfl) (by rfl) (by rfl) (by omega) (by omega) (by omega) (l.drop 1) (by rw [List.take_length]) rl ?_)
          intro a1 r1
          have hn1 : (l.drop 1).length = l.length - 1 := by first | (simp; done) | (simp; omega)
          refine g_adv 4 [.c 122, .b 1] 2 [(0, vi k), (6, vi x1), (36, .slice a1 ((l.drop 1).length) (cp - 1)), (37, vi ((l.drop 1).length : Int)), (38, vi 0)] (by kernel_rfl) ?_
          refine g_loop' (fun (x : { x : Nat × Int // match x with | (i, acc) => i ≤ (l.drop 1).length ∧ acc = ((l.drop 1).take i).foldl (folds k) x1 }) => match x.1 with | (i, acc) => ([(0, vi k), (6, vi acc), (36, .slice a1 ((l.drop 1).length) (cp - 1)), (37, vi ((l.drop 1).length : Int)), (38, vi (i : Int))], [.sp X, .sp R])) (fun (x : { x : Nat × Int // match x with | (i, acc) => i ≤ (l.drop 1).length ∧ acc = ((l.drop 1).take i).foldl (folds k) x1 }) => match x.1 with | (i, acc) => (l.drop 1).length - i) ⟨(0, x1), by simp⟩ [0, 0] (by kernel_rfl) (by kernel_rfl) (by kernel_rfl) ?_
          rintro ⟨⟨i, acc⟩, hi1⟩
          have hi1 : i ≤ (l.drop 1).length ∧ acc = ((l.drop 1).take i).foldl (folds k) x1 := hi1
          obtain ⟨hi1_0, hi1_1⟩ := hi1
          refine g_adv 5 [.c 978, .c 979] 1 [(0, vi k), (6, vi acc), (36, .slice a1 ((l.drop 1).length) (cp - 1)), (37, vi ((l.drop 1).length : Int)), (38, vi (i : Int)), (39, vb (decide ((i : Int) < ((l.drop 1).length : Int))))] (by kernel_rfl) ?_
          refine g_cond (decide ((i : Int) < ((l.drop 1).length : Int))) (by kernel_rfl) (fun h5 => ?_) (fun h5 => ?_)
          · have h5p : (i : Int) < ((l.drop 1).length : Int) := of_decide_eq_true h5
            refine g_adv 5 [.o 7832 0, .c 7833, .b 2, .c 1959] 2 [(0, vi k), (6, vi acc), (36, .slice a1 ((l.drop 1).length) (cp - 1)), (37, vi ((l.drop 1).length : Int)), (38, vi (i : Int))] (by kernel_rfl) ?_
            refine g_some 0 r1 (by kernel_rfl) (by omega) ?_
            rintro b2 o2 rfl
            refine g_op (by kernel_rfl) (ot_val (pt b2 (o2 + i * 1)) (run_ix b2 o2 ((l.drop 1).length) (cp - 1) (i : Int) 1 (by kernel_rfl) (by omega) (by omega)) ?_)
            obtain ⟨x2, hx2⟩ : ∃ x, (l.drop 1)[i]? = some x := ⟨_, List.getElem?_eq_getElem (by omega)⟩
            refine g_op (by kernel_rfl) (ot_loadS 0 b2 o2 i 0 (o2 + i * 1) (vi x2) r1 (by kernel_rfl) (by kernel_rfl) (by rfl) hx2 (by rfl) ?_)
            refine g_adv 6 [.o 7833 3] 2 [(0, vi k), (36, .slice (some ⟨b2, o2, none⟩) ((l.drop 1).length) (cp - 1)), (37, vi ((l.drop 1).length : Int)), (38, vi (i : Int)), (42, vi k), (43, vi acc), (44, vi x2)] (by kernel_rfl) ?_
            refine g_op (by kernel_rfl) (ot_call [] (c_calc_folds k acc x2) (by kernel_rfl) (by kernel_rfl) ?_)
            intro _
            refine g_adv 5 [.o 1959 1] 3 [(0, vi k), (6, vi (folds k acc x2)), (36, .slice (some ⟨b2, o2, none⟩) ((l.drop 1).length) (cp - 1)), (37, vi ((l.drop 1).length : Int)), (46, vi (wI ((i : Int) + 1)))] (by kernel_rfl) ?_
            refine g_val 46 (vi (wI ((i : Int) + 1))) (vi ((i + 1 : Nat) : Int)) (wI_eq (by omega) (by omega) (by omega)) (by kernel_rfl) ?_
            refine g_adv 2 [] 1 [(0, vi k), (6, vi (folds k acc x2)), (36, .slice (some ⟨b2, o2, none⟩) ((l.drop 1).length) (cp - 1)), (37, vi ((l.drop 1).length : Int)), (38, vi ((i + 1 : Nat) : Int))] (by kernel_rfl) ?_
            refine g_round ⟨(i + 1, folds k acc x2), by exact ⟨by omega, by rw [foldl_snoc hx2, hi1_1]⟩⟩ [0, 0] (by simp; omega) (by kernel_rfl) (by kernel_rfl)
          · have h5p : ¬ ((i : Int) < ((l.drop 1).length : Int)) := of_decide_eq_false h5
            refine g_adv 8 [] 5 [(4, vi acc), (5, vi 0)] (by kernel_rfl) ?_
            refine g_post () [0, 0] [vi acc, vi 0] (.tmp (by kernel_rfl) (.tmp (by kernel_rfl) .nil)) (by first | (rw [eval_bad (by simpa using h1)]; rfl) | (rw [eval_nil (by simpa using h1) (by omega)]; rfl) | (rw [eval_chain (by simpa using h1) (by omega) (by simp [*])]; rfl) | (rw [eval_fold (by simpa using h1) hx1 (by simp [*]), hi1_1, List.take_of_length_le (by omega)]; rfl)) (by kernel_rfl)

theorem c_calc_Wrap (n : Int) (m : Int) (hm : m ≤ 4611686018427387904) : Ct Tryz.prog 229 [vi n, vi m] [] (fun _ : Unit => vi (wrap n m)) (fun _ => []) := by
  refine ct_intro Tryz.f229 16 Tryz.func229 rfl rfl rfl (fun E R => ?_)
  refine g_adv 10 [.c 13, .c 7] 1 [(0, vi n), (1, vi m), (6, vb (decide (m < 1)))] (by kernel_rfl) ?_
  refine g_cond (decide (m < 1)) (by kernel_rfl) (fun h1 => ?_) (fun h1 => ?_)
  · have h1p : m < 1 := of_decide_eq_true h1
    refine g_adv 5 [] 2 [(4, vi 0)] (by kernel_rfl) ?_
    refine g_post () [0] [vi 0] (.tmp (by kernel_rfl) .nil) (by simp [resV, wrap, *]) (by kernel_rfl)
  · have h1p : ¬ (m < 1) := of_decide_eq_false h1
    refine g_adv 6 [.o 28 2, .c 29, .c 15] 2 [(1, vi m), (7, vi n), (8, vi m)] (by kernel_rfl) ?_
    refine g_op (by kernel_rfl) (ot_val (vi (n.tmod m)) (run_rem (by kernel_rfl) (by omega)) ?_)
    have hb := tmod_bounds n m (by omega)
    refine g_adv 7 [.c 59] 2 [(0, vi (n.tmod m)), (1, vi m), (11, vb (decide (n.tmod m < 0)))] (by kernel_rfl) ?_
    refine g_cond (decide (n.tmod m < 0)) (by kernel_rfl) (fun h2 => ?_) (fun h2 => ?_)
    · have h2p : n.tmod m < 0 := of_decide_eq_true h2
      refine g_adv 4 [.o 118 3] 1 [(14, vi (wI (n.tmod m + m)))] (by kernel_rfl) ?_
      refine g_val 14 (vi (wI (n.tmod m + m))) (vi (n.tmod m + m)) (wI_eq (by omega) (by omega) (by omega)) (by kernel_rfl) ?_
      refine g_adv 8 [] 2 [(4, vi (n.tmod m + m))] (by kernel_rfl) ?_
      refine g_post () [0] [vi (n.tmod m + m)] (.tmp (by kernel_rfl) .nil) (by simp [resV, wrap, *]) (by kernel_rfl)
    · have h2p : ¬ (n.tmod m < 0) := of_decide_eq_false h2
      refine g_adv 7 [] 2 [(4, vi (n.tmod m))] (by kernel_rfl) ?_
      refine g_post () [0] [vi (n.tmod m)] (.tmp (by kernel_rfl) .nil) (by simp [resV, wrap, *]) (by kernel_rfl)

end Go.Proofs
