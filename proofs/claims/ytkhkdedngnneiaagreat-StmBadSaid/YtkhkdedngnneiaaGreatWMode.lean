/- The walks of the layer mode: printed by a program of this repo (wip/gen). -/
import Derived.Test.YtkhkdedngnneiaaGreatModel
import Derived.Test.YtkhkdedngnneiaaGreatModel
import Derived.Test.YtkhkdedngnneiaaGreatProg
namespace Go.Proofs
open Go Go.Sl Go.Lk
set_option maxRecDepth 20000
set_option linter.unusedVariables false

theorem c_mode_Known (m : Int) : Ct Tryz.prog 72 [vi m] [] (fun _ : Unit => vb (mknown m)) (fun _ => []) := by
  refine ct_intro Tryz.f72 9 Tryz.func72 rfl rfl rfl (fun E R => ?_)
  refine g_adv 9 [.o 6 3, .c 7] 1 [(0, vi m), (5, vb (decide (m ≥ 0)))] (by kernel_rfl) ?_
  refine g_bool 5 (decide (m ≥ 0)) (by kernel_rfl) (fun h1 => ?_) (fun h1 => ?_)
  · have h1p : m ≥ 0 := of_decide_eq_true h1
    refine g_adv 6 [] 2 [(2, vb (decide (m ≤ 5)))] (by kernel_rfl) ?_
    refine g_post () [0] [vb (decide (m ≤ 5))] (.tmp (by kernel_rfl) .nil) (by simp [resV, mknown, *]) (by kernel_rfl)
  · have h1p : ¬ (m ≥ 0) := of_decide_eq_false h1
    refine g_adv 6 [] 2 [(2, vb false)] (by kernel_rfl) ?_
    refine g_post () [0] [vb false] (.tmp (by kernel_rfl) .nil) (by simp [resV, mknown, *]) (by kernel_rfl)

theorem c_mode_made (m : Int) : Ct Tryz.prog 167 [vi m] [] (fun _ : Unit => vi (made m)) (fun _ => []) := by
  refine ct_intro Tryz.f167 14 Tryz.func167 rfl rfl rfl (fun E R => ?_)
  refine g_adv 15 [.c 53, .b 0, .c 7] 1 [(3, vi m), (4, vb (m == 0))] (by kernel_rfl) ?_
  refine g_cond (m == 0) (by kernel_rfl) (fun h1 => ?_) (fun h1 => ?_)
  · have h1p : m = 0 := eq_of_beq h1
    refine g_adv 5 [] 3 [(2, vi 0)] (by kernel_rfl) ?_
    refine g_post () [0] [vi 0] (.tmp (by kernel_rfl) .nil) (by simp [resV, made, *]) (by kernel_rfl)
  · have h1p : m ≠ 0 := ne_of_beq_false h1
    refine g_adv 5 [.c 215] 1 [(3, vi m), (6, vb (m == 1))] (by kernel_rfl) ?_
    refine g_cond (m == 1) (by kernel_rfl) (fun h2 => ?_) (fun h2 => ?_)
    · have h2p : m = 1 := eq_of_beq h2
      refine g_adv 5 [] 3 [(2, vi 1)] (by kernel_rfl) ?_
      refine g_post () [0] [vi 1] (.tmp (by kernel_rfl) .nil) (by simp [resV, made, *]) (by kernel_rfl)
    · have h2p : m ≠ 1 := ne_of_beq_false h2
      refine g_adv 5 [.c 863] 1 [(3, vi m), (8, vb (m == 2))] (by kernel_rfl) ?_
      refine g_cond (m == 2) (by kernel_rfl) (fun h3 => ?_) (fun h3 => ?_)
      · have h3p : m = 2 := eq_of_beq h3
        refine g_adv 5 [] 3 [(2, vi 3)] (by kernel_rfl) ?_
        refine g_post () [0] [vi 3] (.tmp (by kernel_rfl) .nil) (by simp [resV, made, *]) (by kernel_rfl)
      · have h3p : m ≠ 2 := ne_of_beq_false h3
        refine g_adv 5 [.c 3455] 1 [(3, vi m), (10, vb (m == 3))] (by kernel_rfl) ?_
        refine g_cond (m == 3) (by kernel_rfl) (fun h4 => ?_) (fun h4 => ?_)
        · have h4p : m = 3 := eq_of_beq h4
          refine g_adv 5 [] 3 [(2, vi 5)] (by kernel_rfl) ?_
          refine g_post () [0] [vi 5] (.tmp (by kernel_rfl) .nil) (by simp [resV, made, *]) (by kernel_rfl)
        · have h4p : m ≠ 3 := ne_of_beq_false h4
          refine g_adv 5 [.c 13823] 1 [(12, vb (m == 4))] (by kernel_rfl) ?_
          refine g_cond (m == 4) (by kernel_rfl) (fun h5 => ?_) (fun h5 => ?_)
          · have h5p : m = 4 := eq_of_beq h5
            refine g_adv 5 [] 3 [(2, vi 7)] (by kernel_rfl) ?_
            refine g_post () [0] [vi 7] (.tmp (by kernel_rfl) .nil) (by simp [resV, made, *]) (by kernel_rfl)
          · have h5p : m ≠ 4 := ne_of_beq_false h5
            refine g_adv 7 [] 3 [(2, vi 15)] (by kernel_rfl) ?_
            refine g_post () [0] [vi 15] (.tmp (by kernel_rfl) .nil) (by simp [resV, made, *]) (by kernel_rfl)

theorem c_mode_hurts (a : Int) (b : Int) : Ct Tryz.prog 217 [vi a, vi b] [] (fun _ : Unit => vb (hurts a b)) (fun _ => []) := by
  refine ct_intro Tryz.f217 25 Tryz.func217 rfl rfl rfl (fun E R => ?_)
  refine g_adv 7 [.o 6 1, .c 7] 1 [(0, vi a), (1, vi b), (5, vi a)] (by kernel_rfl) ?_
  refine g_op (by kernel_rfl) (ot_call [] (c_mode_made a) (by kernel_rfl) (by kernel_rfl) ?_)
  intro _
  refine g_adv 3 [.o 6 5] 1 [(0, vi a), (1, vi b), (9, vb (decide (iand (made a) 8 > 0)))] (by kernel_rfl) ?_
  refine g_bool 9 (decide (iand (made a) 8 > 0)) (by kernel_rfl) (fun h1 => ?_) (fun h1 => ?_)
  · have h1p : iand (made a) 8 > 0 := of_decide_eq_true h1
    refine g_adv 4 [.o 6 9] 1 [(0, vi a), (1, vi b), (13, vb (b != 0))] (by kernel_rfl) ?_
    refine g_bool 13 (b != 0) (by kernel_rfl) (fun h2 => ?_) (fun h2 => ?_)
    · have h2p : b ≠ 0 := bne_iff_ne.1 h2
      refine g_adv 14 [] 2 [(4, vb true)] (by kernel_rfl) ?_
      refine g_post () [0] [vb true] (.tmp (by kernel_rfl) .nil) (by simp [resV, hurts, *]) (by kernel_rfl)
    · have h2p : b = 0 := (by simpa using h2)
      refine g_adv 1 [.o 6 10] 1 [(1, vi b), (13, vb false), (14, vi a)] (by kernel_rfl) ?_
      refine g_op (by kernel_rfl) (ot_call [] (c_mode_made a) (by kernel_rfl) (by kernel_rfl) ?_)
      intro _
      refine g_adv 3 [.o 6 14] 1 [(1, vi b), (13, vb false), (18, vb (decide (iand (made a) 4 > 0)))] (by kernel_rfl) ?_
      refine g_bool 18 (decide (iand (made a) 4 > 0)) (by kernel_rfl) (fun h3 => ?_) (fun h3 => ?_)
      · have h3p : iand (made a) 4 > 0 := of_decide_eq_true h3
        refine g_adv 1 [.o 6 15] 1 [(13, vb false), (18, vb true), (19, vi b)] (by kernel_rfl) ?_
        refine g_op (by kernel_rfl) (ot_call [] (c_mode_made b) (by kernel_rfl) (by kernel_rfl) ?_)
        intro _
        refine g_adv 7 [] 2 [(4, vb (decide (iand (made b) 2 > 0)))] (by kernel_rfl) ?_
        refine g_post () [0] [vb (decide (iand (made b) 2 > 0))] (.tmp (by kernel_rfl) .nil) (by simp [resV, hurts, *]) (by kernel_rfl)
      · have h3p : ¬ (iand (made a) 4 > 0) := of_decide_eq_false h3
        refine g_adv 9 [] 2 [(4, vb false)] (by kernel_rfl) ?_
        refine g_post () [0] [vb false] (.tmp (by kernel_rfl) .nil) (by simp [resV, hurts, *]) (by kernel_rfl)
  · have h1p : ¬ (iand (made a) 8 > 0) := of_decide_eq_false h1
    refine g_adv 5 [.o 6 10] 1 [(1, vi b), (13, vb false), (14, vi a)] (by kernel_rfl) ?_
    refine g_op (by kernel_rfl) (ot_call [] (c_mode_made a) (by kernel_rfl) (by kernel_rfl) ?_)
    intro _
    refine g_adv 3 [.o 6 14] 1 [(1, vi b), (13, vb false), (18, vb (decide (iand (made a) 4 > 0)))] (by kernel_rfl) ?_
    refine g_bool 18 (decide (iand (made a) 4 > 0)) (by kernel_rfl) (fun h4 => ?_) (fun h4 => ?_)
    · have h4p : iand (made a) 4 > 0 := of_decide_eq_true h4
      refine g_adv 1 [.o 6 15] 1 [(13, vb false), (18, vb true), (19, vi b)] (by kernel_rfl) ?_
      refine g_op (by kernel_rfl) (ot_call [] (c_mode_made b) (by kernel_rfl) (by kernel_rfl) ?_)
      intro _
      refine g_adv 7 [] 2 [(4, vb (decide (iand (made b) 2 > 0)))] (by kernel_rfl) ?_
      refine g_post () [0] [vb (decide (iand (made b) 2 > 0))] (.tmp (by kernel_rfl) .nil) (by simp [resV, hurts, *]) (by kernel_rfl)
    · have h4p : ¬ (iand (made a) 4 > 0) := of_decide_eq_false h4
      refine g_adv 9 [] 2 [(4, vb false)] (by kernel_rfl) ?_
      refine g_post () [0] [vb false] (.tmp (by kernel_rfl) .nil) (by simp [resV, hurts, *]) (by kernel_rfl)

theorem c_mode_Fits (a : Int) (b : Int) : Ct Tryz.prog 170 [vi a, vi b] [] (fun _ : Unit => vb (fits a b)) (fun _ => []) := by
  refine ct_intro Tryz.f170 23 Tryz.func170 rfl rfl rfl (fun E R => ?_)
  refine g_adv 7 [.o 6 1, .c 7] 1 [(0, vi a), (1, vi b), (5, vi a)] (by kernel_rfl) ?_
  refine g_op (by kernel_rfl) (ot_call [] (c_mode_Known a) (by kernel_rfl) (by kernel_rfl) ?_)
  intro _
  refine g_adv 1 [.o 6 3] 1 [(0, vi a), (1, vi b), (7, vb (mknown a))] (by kernel_rfl) ?_
  refine g_bool 7 (mknown a) (by kernel_rfl) (fun h1 => ?_) (fun h1 => ?_)
  · have h1p : mknown a = true := h1
    refine g_adv 1 [.o 6 4] 1 [(0, vi a), (1, vi b), (7, vb true), (8, vi b)] (by kernel_rfl) ?_
    refine g_op (by kernel_rfl) (ot_call [] (c_mode_Known b) (by kernel_rfl) (by kernel_rfl) ?_)
    intro _
    refine g_adv 2 [.o 6 7] 1 [(0, vi a), (1, vi b), (11, vb (mknown b))] (by kernel_rfl) ?_
    refine g_bool 11 (mknown b) (by kernel_rfl) (fun h2 => ?_) (fun h2 => ?_)
    · have h2p : mknown b = true := h2
      refine g_adv 2 [.o 6 9] 1 [(0, vi a), (1, vi b), (11, vb true), (12, vi a), (13, vi b)] (by kernel_rfl) ?_
      refine g_op (by kernel_rfl) (ot_call [] (c_mode_hurts a b) (by kernel_rfl) (by kernel_rfl) ?_)
      intro _
      refine g_adv 3 [.o 6 13] 1 [(0, vi a), (1, vi b), (17, vb (!(hurts a b)))] (by kernel_rfl) ?_
      refine g_bool 17 (!(hurts a b)) (by kernel_rfl) (fun h3 => ?_) (fun h3 => ?_)
      · have h3p : hurts a b = false := (show (hurts a b) = false by simpa using h3)
        refine g_adv 2 [.o 6 15] 1 [(17, vb true), (18, vi b), (19, vi a)] (by kernel_rfl) ?_
        refine g_op (by kernel_rfl) (ot_call [] (c_mode_hurts b a) (by kernel_rfl) (by kernel_rfl) ?_)
        intro _
        refine g_adv 5 [] 2 [(4, vb (!(hurts b a)))] (by kernel_rfl) ?_
        refine g_post () [0] [vb (!(hurts b a))] (.tmp (by kernel_rfl) .nil) (by simp [resV, fits, *]) (by kernel_rfl)
      · have h3p : hurts a b = true := (show (hurts a b) = true by simpa using h3)
        refine g_adv 8 [] 2 [(4, vb false)] (by kernel_rfl) ?_
        refine g_post () [0] [vb false] (.tmp (by kernel_rfl) .nil) (by simp [resV, fits, *]) (by kernel_rfl)
    · have h2p : mknown b = false := h2
      refine g_adv 14 [] 2 [(4, vb false)] (by kernel_rfl) ?_
      refine g_post () [0] [vb false] (.tmp (by kernel_rfl) .nil) (by simp [resV, fits, *]) (by kernel_rfl)
  · have h1p : mknown a = false := h1
    refine g_adv 18 [] 2 [(4, vb false)] (by kernel_rfl) ?_
    refine g_post () [0] [vb false] (.tmp (by kernel_rfl) .nil) (by simp [resV, fits, *]) (by kernel_rfl)

theorem c_mode_Sup (a : Option Addr) (n : Nat) (l : List Int) (X : SP) (rl : Reads X 1 encI a l) (hl : l.length ≤ 1099511627776) : Ct Tryz.prog 121 [.slice a l.length n] [.sp X] (fun _ : Unit => vi (sup l)) (fun _ => [.sp X]) := by
  refine ct_intro Tryz.f121 30 Tryz.func121 rfl rfl rfl (fun E R => ?_)
  refine g_adv 16 [.c 58, .b 0, .c 15] 1 [(3, vi 0), (7, .slice a l.length n), (8, vi (l.length : Int)), (9, vi 0)] (by kernel_rfl) ?_
  refine g_loop' (fun (x : { x : Nat × Int // match x with | (i, p) => i ≤ l.length ∧ p = partsOf (l.take i) ∧ (l.take i).all mknown = true }) => match x.1 with | (i, p) => ([(3, vi p), (7, .slice a l.length n), (8, vi (l.length : Int)), (9, vi (i : Int))], [.sp X, .sp R])) (fun (x : { x : Nat × Int // match x with | (i, p) => i ≤ l.length ∧ p = partsOf (l.take i) ∧ (l.take i).all mknown = true }) => match x.1 with | (i, p) => l.length - i) ⟨(0, 0), by simp [partsOf]⟩ [0, 0] (by kernel_rfl) (by kernel_rfl) (by kernel_rfl) ?_
  rintro ⟨⟨i, p⟩, hi1⟩
  have hi1 : i ≤ l.length ∧ p = partsOf (l.take i) ∧ (l.take i).all mknown = true := hi1
  obtain ⟨hi1_0, hi1_1, hi1_2⟩ := hi1
  refine g_adv 5 [.c 466, .c 467] 1 [(3, vi p), (7, .slice a l.length n), (8, vi (l.length : Int)), (9, vi (i : Int)), (10, vb (decide ((i : Int) < (l.length : Int))))] (by kernel_rfl) ?_
  refine g_cond (decide ((i : Int) < (l.length : Int))) (by kernel_rfl) (fun h1 => ?_) (fun h1 => ?_)
  · have h1p : (i : Int) < (l.length : Int) := of_decide_eq_true h1
    refine g_adv 5 [.o 3736 0, .c 3737, .b 1, .c 935] 2 [(3, vi p), (7, .slice a l.length n), (8, vi (l.length : Int)), (9, vi (i : Int))] (by kernel_rfl) ?_
    refine g_some 0 rl (by kernel_rfl) (by omega) ?_
    rintro b1 o1 rfl
    refine g_op (by kernel_rfl) (ot_val (pt b1 (o1 + i * 1)) (run_ix b1 o1 l.length n (i : Int) 1 (by kernel_rfl) (by omega) (by omega)) ?_)
    obtain ⟨x1, hx1⟩ : ∃ x, l[i]? = some x := ⟨_, List.getElem?_eq_getElem (by omega)⟩
    refine g_op (by kernel_rfl) (ot_loadS 0 b1 o1 i 0 (o1 + i * 1) (vi x1) rl (by kernel_rfl) (by kernel_rfl) (by rfl) hx1 (by rfl) ?_)
    refine g_adv 6 [.o 14948 1, .c 14949, .c 7475] 2 [(3, vi p), (5, vi x1), (7, .slice (some ⟨b1, o1, none⟩) l.length n), (8, vi (l.length : Int)), (9, vi (i : Int)), (13, vi x1)] (by kernel_rfl) ?_
    refine g_op (by kernel_rfl) (ot_call [] (c_mode_Known x1) (by kernel_rfl) (by kernel_rfl) ?_)
    intro _
    refine g_adv 2 [] 1 [(3, vi p), (5, vi x1), (7, .slice (some ⟨b1, o1, none⟩) l.length n), (8, vi (l.length : Int)), (9, vi (i : Int)), (15, vb (!(mknown x1)))] (by kernel_rfl) ?_
    refine g_cond (!(mknown x1)) (by kernel_rfl) (fun h2 => ?_) (fun h2 => ?_)
    · have h2p : mknown x1 = false := (show (mknown x1) = false by simpa using h2)
      refine g_adv 5 [] 7 [(2, vi 5)] (by kernel_rfl) ?_
      refine g_post () [0, 0] [vi 5] (.tmp (by kernel_rfl) .nil) (by rw [sup_bad hx1 (by simpa using h2)]; rfl) (by kernel_rfl)
    · have h2p : mknown x1 = true := (show (mknown x1) = true by simpa using h2)
      refine g_adv 4 [.o 7475 2] 2 [(7, .slice (some ⟨b1, o1, none⟩) l.length n), (8, vi (l.length : Int)), (9, vi (i : Int)), (16, vi p), (17, vi x1)] (by kernel_rfl) ?_
      refine g_op (by kernel_rfl) (ot_call [] (c_mode_made x1) (by kernel_rfl) (by kernel_rfl) ?_)
      intro _
      refine g_adv 6 [.o 935 1] 3 [(3, vi (ior p (made x1))), (7, .slice (some ⟨b1, o1, none⟩) l.length n), (8, vi (l.length : Int)), (20, vi (wI ((i : Int) + 1)))] (by kernel_rfl) ?_
      refine g_val 20 (vi (wI ((i : Int) + 1))) (vi ((i + 1 : Nat) : Int)) (wI_eq (by omega) (by omega) (by omega)) (by kernel_rfl) ?_
      refine g_adv 2 [] 1 [(3, vi (ior p (made x1))), (7, .slice (some ⟨b1, o1, none⟩) l.length n), (8, vi (l.length : Int)), (9, vi ((i + 1 : Nat) : Int))] (by kernel_rfl) ?_
      refine g_round ⟨(i + 1, ior p (made x1)), by refine ⟨by omega, ?_, ?_⟩ <;> rw [take_snoc hx1] <;> simp [partsOf_snoc, *]⟩ [0, 0] (by simp; omega) (by kernel_rfl) (by kernel_rfl)
  · have h1p : ¬ ((i : Int) < (l.length : Int)) := of_decide_eq_false h1
    obtain rfl : i = l.length := by omega
    rw [List.take_length] at hi1_1 hi1_2
    refine g_adv 7 [.c 122, .b 2, .c 31] 5 [(3, vi p), (6, vi 0)] (by kernel_rfl) ?_
    refine g_loop' (fun (x : { x : Nat // match x with | j => j ≤ 5 ∧ supFrom (5 - j) j p = supOf p }) => match x.1 with | j => ([(3, vi p), (6, vi (j : Int))], [.sp X, .sp R])) (fun (x : { x : Nat // match x with | j => j ≤ 5 ∧ supFrom (5 - j) j p = supOf p }) => match x.1 with | j => 5 - j) ⟨0, by exact ⟨by omega, rfl⟩⟩ [0, 0] (by kernel_rfl) (by kernel_rfl) (by kernel_rfl) ?_
    rintro ⟨j, hi2⟩
    have hi2 : j ≤ 5 ∧ supFrom (5 - j) j p = supOf p := hi2
    obtain ⟨hi2_0, hi2_1⟩ := hi2
    refine g_adv 6 [.c 977, .c 489] 1 [(3, vi p), (6, vi (j : Int)), (22, vb (decide ((j : Int) < 5)))] (by kernel_rfl) ?_
    refine g_cond (decide ((j : Int) < 5)) (by kernel_rfl) (fun h3 => ?_) (fun h3 => ?_)
    · have h3p : (j : Int) < 5 := of_decide_eq_true h3
      refine g_adv 6 [.o 3912 1, .c 3913, .b 3, .c 979] 2 [(3, vi p), (6, vi (j : Int)), (25, vi (j : Int))] (by kernel_rfl) ?_
      refine g_op (by kernel_rfl) (ot_call [] (c_mode_made (j : Int)) (by kernel_rfl) (by kernel_rfl) ?_)
      intro _
      refine g_adv 3 [] 1 [(3, vi p), (6, vi (j : Int)), (28, vb (made (j : Int) == p))] (by kernel_rfl) ?_
      refine g_cond (made (j : Int) == p) (by kernel_rfl) (fun h4 => ?_) (fun h4 => ?_)
      · have h4p : made (j : Int) = p := eq_of_beq h4
        refine g_adv 6 [] 6 [(2, vi (j : Int))] (by kernel_rfl) ?_
        refine g_post () [0, 0] [vi (j : Int)] (.tmp (by kernel_rfl) .nil) (by subst hi1_1; rw [sup_hit hi1_2 (by omega) hi2_1 h4p]; rfl) (by kernel_rfl)
      · have h4p : made (j : Int) ≠ p := ne_of_beq_false h4
        refine g_adv 5 [.o 979 2] 3 [(3, vi p), (24, vi (wI ((j : Int) + 1)))] (by kernel_rfl) ?_
        refine g_val 24 (vi (wI ((j : Int) + 1))) (vi ((j + 1 : Nat) : Int)) (wI_eq (by omega) (by omega) (by omega)) (by kernel_rfl) ?_
        refine g_adv 2 [] 1 [(3, vi p), (6, vi ((j + 1 : Nat) : Int))] (by kernel_rfl) ?_
        refine g_round ⟨j + 1, by exact ⟨by omega, sup_step (by omega) hi2_1 (by simpa using h4p)⟩⟩ [0, 0] (by simp; omega) (by kernel_rfl) (by kernel_rfl)
    · have h3p : ¬ ((j : Int) < 5) := of_decide_eq_false h3
      obtain rfl : j = 5 := by omega
      refine g_adv 6 [] 5 [(2, vi 5)] (by kernel_rfl) ?_
      refine g_post () [0, 0] [vi 5] (.tmp (by kernel_rfl) .nil) (by subst hi1_1; rw [sup_end hi1_2 hi2_1]; rfl) (by kernel_rfl)

theorem c_mode_Covers (a : Int) (b : Int) : Ct Tryz.prog 231 [vi a, vi b] [] (fun _ : Unit => vb (covers a b)) (fun _ => []) := by
  refine ct_intro Tryz.f231 19 Tryz.func231 rfl rfl rfl (fun E R => ?_)
  refine g_adv 7 [.o 6 1, .c 7] 1 [(0, vi a), (1, vi b), (5, vi a)] (by kernel_rfl) ?_
  refine g_op (by kernel_rfl) (ot_call [] (c_mode_Known a) (by kernel_rfl) (by kernel_rfl) ?_)
  intro _
  refine g_adv 1 [.o 6 3] 1 [(0, vi a), (1, vi b), (7, vb (mknown a))] (by kernel_rfl) ?_
  refine g_bool 7 (mknown a) (by kernel_rfl) (fun h1 => ?_) (fun h1 => ?_)
  · have h1p : mknown a = true := h1
    refine g_adv 1 [.o 6 4] 1 [(0, vi a), (1, vi b), (7, vb true), (8, vi b)] (by kernel_rfl) ?_
    refine g_op (by kernel_rfl) (ot_call [] (c_mode_Known b) (by kernel_rfl) (by kernel_rfl) ?_)
    intro _
    refine g_adv 2 [.o 6 7] 1 [(0, vi a), (1, vi b), (11, vb (mknown b))] (by kernel_rfl) ?_
    refine g_bool 11 (mknown b) (by kernel_rfl) (fun h2 => ?_) (fun h2 => ?_)
    · have h2p : mknown b = true := h2
      refine g_adv 2 [.o 6 9] 1 [(0, vi a), (11, vb true), (12, vi a), (13, vi b)] (by kernel_rfl) ?_
      refine g_op (by kernel_rfl) (ot_lit 3 2 #[vi a, vi b] (by kernel_rfl) ?_)
      intro b1
      refine g_lit 0 b1 #[vi a, vi b] 3 1 encI (fun _ => rfl) [a, b] (by kernel_rfl) (by rfl) ?_
      refine g_op (by kernel_rfl) (ot_call [0] (c_mode_Sup (some ⟨b1, 0, none⟩) 2 [a, b] (Sl 3 1 encI (some ⟨b1, 0, none⟩) (([a, b]).length) [a, b]) Sl.reads (by first | omega | assumption | (simp; done) | (simp; omega))) (by kernel_rfl) (by kernel_rfl) ?_)
      intro _
      refine g_adv 6 [] 2 [(4, vb (sup [a, b] == a))] (by kernel_rfl) ?_
      refine g_post () [1] [vb (sup [a, b] == a)] (.tmp (by kernel_rfl) .nil) (by simp [resV, covers, *]) (by kernel_rfl)
    · have h2p : mknown b = false := h2
      refine g_adv 10 [] 2 [(4, vb false)] (by kernel_rfl) ?_
      refine g_post () [0] [vb false] (.tmp (by kernel_rfl) .nil) (by simp [resV, covers, *]) (by kernel_rfl)
  · have h1p : mknown a = false := h1
    refine g_adv 14 [] 2 [(4, vb false)] (by kernel_rfl) ?_
    refine g_post () [0] [vb false] (.tmp (by kernel_rfl) .nil) (by simp [resV, covers, *]) (by kernel_rfl)

theorem c_mode_Intent (m : Int) : Ct Tryz.prog 232 [vi m] [] (fun _ : Unit => vi (intent m)) (fun _ => []) := by
  refine ct_intro Tryz.f232 16 Tryz.func232 rfl rfl rfl (fun E R => ?_)
  refine g_adv 11 [.o 24 3, .c 25, .b 0, .c 7] 1 [(0, vi m), (6, vb (m == 0))] (by kernel_rfl) ?_
  refine g_bool 6 (m == 0) (by kernel_rfl) (fun h1 => ?_) (fun h1 => ?_)
  · have h1p : m = 0 := eq_of_beq h1
    refine g_adv 12 [] 4 [(2, vi 0)] (by kernel_rfl) ?_
    refine g_post () [0] [vi 0] (.tmp (by kernel_rfl) .nil) (by simp [resV, intent, *]) (by kernel_rfl)
  · have h1p : m ≠ 0 := ne_of_beq_false h1
    refine g_adv 1 [.o 24 4] 1 [(0, vi m), (6, vb false), (7, vi m)] (by kernel_rfl) ?_
    refine g_op (by kernel_rfl) (ot_call [] (c_mode_Known m) (by kernel_rfl) (by kernel_rfl) ?_)
    intro _
    refine g_adv 4 [] 1 [(0, vi m), (3, vb (!(mknown m)))] (by kernel_rfl) ?_
    refine g_cond (!(mknown m)) (by kernel_rfl) (fun h2 => ?_) (fun h2 => ?_)
    · have h2p : mknown m = false := (show (mknown m) = false by simpa using h2)
      refine g_adv 5 [] 3 [(2, vi 0)] (by kernel_rfl) ?_
      refine g_post () [0] [vi 0] (.tmp (by kernel_rfl) .nil) (by simp [resV, intent, *]) (by kernel_rfl)
    · have h2p : mknown m = true := (show (mknown m) = true by simpa using h2)
      refine g_adv 3 [.o 102 1, .c 103] 1 [(12, vi m)] (by kernel_rfl) ?_
      refine g_op (by kernel_rfl) (ot_call [] (c_mode_made m) (by kernel_rfl) (by kernel_rfl) ?_)
      intro _
      refine g_adv 4 [] 1 [(11, vb (decide (iand (made m) 2 > 0)))] (by kernel_rfl) ?_
      refine g_cond (decide (iand (made m) 2 > 0)) (by kernel_rfl) (fun h3 => ?_) (fun h3 => ?_)
      · have h3p : iand (made m) 2 > 0 := of_decide_eq_true h3
        refine g_adv 5 [] 3 [(2, vi 2)] (by kernel_rfl) ?_
        refine g_post () [0] [vi 2] (.tmp (by kernel_rfl) .nil) (by simp [resV, intent, *]) (by kernel_rfl)
      · have h3p : ¬ (iand (made m) 2 > 0) := of_decide_eq_false h3
        refine g_adv 7 [] 3 [(2, vi 1)] (by kernel_rfl) ?_
        refine g_post () [0] [vi 1] (.tmp (by kernel_rfl) .nil) (by simp [resV, intent, *]) (by kernel_rfl)

theorem c_mode_Reads (m : Int) : Ct Tryz.prog 257 [vi m] [] (fun _ : Unit => vb (mreads m)) (fun _ => []) := by
  refine ct_intro Tryz.f257 11 Tryz.func257 rfl rfl rfl (fun E R => ?_)
  refine g_adv 7 [.o 6 1, .c 7] 1 [(0, vi m), (3, vi m)] (by kernel_rfl) ?_
  refine g_op (by kernel_rfl) (ot_call [] (c_mode_Known m) (by kernel_rfl) (by kernel_rfl) ?_)
  intro _
  refine g_adv 1 [.o 6 3] 1 [(0, vi m), (5, vb (mknown m))] (by kernel_rfl) ?_
  refine g_bool 5 (mknown m) (by kernel_rfl) (fun h1 => ?_) (fun h1 => ?_)
  · have h1p : mknown m = true := h1
    refine g_adv 1 [.o 6 4] 1 [(5, vb true), (6, vi m)] (by kernel_rfl) ?_
    refine g_op (by kernel_rfl) (ot_call [] (c_mode_made m) (by kernel_rfl) (by kernel_rfl) ?_)
    intro _
    refine g_adv 6 [] 2 [(2, vb (decide (iand (made m) 4 > 0)))] (by kernel_rfl) ?_
    refine g_post () [0] [vb (decide (iand (made m) 4 > 0))] (.tmp (by kernel_rfl) .nil) (by simp [resV, mreads, *]) (by kernel_rfl)
  · have h1p : mknown m = false := h1
    refine g_adv 8 [] 2 [(2, vb false)] (by kernel_rfl) ?_
    refine g_post () [0] [vb false] (.tmp (by kernel_rfl) .nil) (by simp [resV, mreads, *]) (by kernel_rfl)

theorem c_mode_Writes (m : Int) : Ct Tryz.prog 256 [vi m] [] (fun _ : Unit => vb (mwrites m)) (fun _ => []) := by
  refine ct_intro Tryz.f256 11 Tryz.func256 rfl rfl rfl (fun E R => ?_)
  refine g_adv 7 [.o 6 1, .c 7] 1 [(0, vi m), (3, vi m)] (by kernel_rfl) ?_
  refine g_op (by kernel_rfl) (ot_call [] (c_mode_Known m) (by kernel_rfl) (by kernel_rfl) ?_)
  intro _
  refine g_adv 1 [.o 6 3] 1 [(0, vi m), (5, vb (mknown m))] (by kernel_rfl) ?_
  refine g_bool 5 (mknown m) (by kernel_rfl) (fun h1 => ?_) (fun h1 => ?_)
  · have h1p : mknown m = true := h1
    refine g_adv 1 [.o 6 4] 1 [(5, vb true), (6, vi m)] (by kernel_rfl) ?_
    refine g_op (by kernel_rfl) (ot_call [] (c_mode_made m) (by kernel_rfl) (by kernel_rfl) ?_)
    intro _
    refine g_adv 6 [] 2 [(2, vb (decide (iand (made m) 8 > 0)))] (by kernel_rfl) ?_
    refine g_post () [0] [vb (decide (iand (made m) 8 > 0))] (.tmp (by kernel_rfl) .nil) (by simp [resV, mwrites, *]) (by kernel_rfl)
  · have h1p : mknown m = false := h1
    refine g_adv 8 [] 2 [(2, vb false)] (by kernel_rfl) ?_
    refine g_post () [0] [vb false] (.tmp (by kernel_rfl) .nil) (by simp [resV, mwrites, *]) (by kernel_rfl)

end Go.Proofs
