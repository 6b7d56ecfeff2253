/- The walks of the layer stm0: printed by a program of this repo (wip/gen). -/
import Derived.Test.YtkhkdedngnneiaaGreatWHand0
import Derived.Test.YtkhkdedngnneiaaGreatMStm0
import Derived.Test.YtkhkdedngnneiaaGreatProg
namespace Go.Proofs
open Go Go.Sl Go.Lk
set_option maxRecDepth 20000
set_option linter.unusedVariables false

abbrev HandQ (kb p : Nat) (s : Hand) : SP := HandP p kb s

def MachPF (p : Nat) (s : Mach) : Nat × (Option Addr) × Nat × (List Nat) → List Chunk := fun (kb, a, cp, hs) => [.obj p (.cells #[pt kb 0, .slice a hs.length cp] 147 (0, 0)), .sp (CoreP kb s.core), .sp (Sl 40 1 encP a cp hs), .sp (Many (HandQ kb) hs s.hands)]
def MachP (p : Nat) (s : Mach) : SP := ex (MachPF p s)

theorem c_stm_New_1 (a : Option Addr) (cp : Nat) (l : List (List Instr)) : Ct Tryz.prog 91 [.slice a l.length cp] [] (fun _ : Unit => vb (decide ((l.length : Int) > 20))) (fun _ => []) := by
  refine ct_intro Tryz.f91 6 Tryz.func91 rfl rfl rfl (fun E R => ?_)
  refine g_adv 12 [] 1 [(2, vb (decide ((l.length : Int) > 20)))] (by kernel_rfl) ?_
  refine g_post () [0] [vb (decide ((l.length : Int) > 20))] (.tmp (by kernel_rfl) .nil) (rfl) (by kernel_rfl)

theorem c_index_long (a : Option Addr) (cp : Nat) (l : List (RowR (List Instr))) (X : SP) (rl : Reads X 1 encR2 a l) (hl : l.length ≤ 1099511627776) : Ct Tryz.prog 142 [.slice a l.length cp, .func (.func 91) #[] #[]] [.sp X] (fun _ : Unit => vi (idxOf (fun r => decide ((r.l.length : Int) > 20)) l)) (fun _ => [.sp X]) := by
  refine ct_intro Tryz.f142 19 Tryz.func142 rfl rfl rfl (fun E R => ?_)
  refine g_adv 12 [.c 26, .b 0, .c 7] 1 [(0, .slice a l.length cp), (1, .func (.func 91) #[] #[]), (7, vi (l.length : Int)), (8, vi 0)] (by kernel_rfl) ?_
  refine g_loop' (fun (x : { x : Nat // match x with | i => i ≤ l.length ∧ (l.take i).any (fun r => decide ((r.l.length : Int) > 20)) = false }) => match x.1 with | i => ([(0, .slice a l.length cp), (1, .func (.func 91) #[] #[]), (7, vi (l.length : Int)), (8, vi (i : Int))], [.sp X, .sp R])) (fun (x : { x : Nat // match x with | i => i ≤ l.length ∧ (l.take i).any (fun r => decide ((r.l.length : Int) > 20)) = false }) => match x.1 with | i => l.length - i) ⟨0, by simp⟩ [0, 0] (by kernel_rfl) (by kernel_rfl) (by kernel_rfl) ?_
  rintro ⟨i, hi1⟩
  have hi1 : i ≤ l.length ∧ (l.take i).any (fun r => decide ((r.l.length : Int) > 20)) = false := hi1
  obtain ⟨hi1_0, hi1_1⟩ := hi1
  refine g_adv 5 [.c 210, .c 211] 1 [(0, .slice a l.length cp), (1, .func (.func 91) #[] #[]), (7, vi (l.length : Int)), (8, vi (i : Int)), (9, vb (decide ((i : Int) < (l.length : Int))))] (by kernel_rfl) ?_
  refine g_cond (decide ((i : Int) < (l.length : Int))) (by kernel_rfl) (fun h1 => ?_) (fun h1 => ?_)
  · have h1p : (i : Int) < (l.length : Int) := of_decide_eq_true h1
    refine g_adv 13 [.o 3378 3, .c 3379, .b 1, .c 423] 2 [(0, .slice a l.length cp), (1, .func (.func 91) #[] #[]), (5, vi (i : Int)), (7, vi (l.length : Int)), (8, vi (i : Int)), (11, .func (.func 91) #[] #[]), (12, .slice a l.length cp), (13, vi (i : Int))] (by kernel_rfl) ?_
    refine g_some 0 rl (by kernel_rfl) (by omega) ?_
    rintro b1 o1 rfl
    refine g_op (by kernel_rfl) (ot_val (pt b1 (o1 + i * 1)) (run_ix b1 o1 l.length cp (i : Int) 1 (by kernel_rfl) (by omega) (by omega)) ?_)
    obtain ⟨⟨xa1, xc1, xl1⟩, hx1⟩ : ∃ x, l[i]? = some x := ⟨_, List.getElem?_eq_getElem (by omega)⟩
    refine g_op (by kernel_rfl) (ot_loadS 0 b1 o1 i 0 (o1 + i * 1) (.slice xa1 xl1.length xc1) rl (by kernel_rfl) (by kernel_rfl) (by rfl) hx1 (by rfl) ?_)
    refine g_op (by kernel_rfl) (ot_call [] (c_stm_New_1 xa1 xc1 xl1) (by kernel_rfl) (by kernel_rfl) ?_)
    intro _
    refine g_adv 1 [] 1 [(0, .slice (some ⟨b1, o1, none⟩) l.length cp), (1, .func (.func 91) #[] #[]), (5, vi (i : Int)), (7, vi (l.length : Int)), (8, vi (i : Int)), (16, vb (decide ((xl1.length : Int) > 20)))] (by kernel_rfl) ?_
    refine g_cond (decide ((xl1.length : Int) > 20)) (by kernel_rfl) (fun h2 => ?_) (fun h2 => ?_)
    · have h2p : (xl1.length : Int) > 20 := of_decide_eq_true h2
      refine g_adv 6 [] 6 [(4, vi (i : Int))] (by kernel_rfl) ?_
      refine g_post () [0, 0] [vi (i : Int)] (.tmp (by kernel_rfl) .nil) (by first | (rw [idx_hit hi1_1 hx1 (by first | assumption | (simp_all; done))]; rfl) | (rw [idx_none hi1_1]; rfl)) (by kernel_rfl)
    · have h2p : ¬ ((xl1.length : Int) > 20) := of_decide_eq_false h2
      refine g_adv 4 [.o 423 1] 3 [(0, .slice (some ⟨b1, o1, none⟩) l.length cp), (1, .func (.func 91) #[] #[]), (7, vi (l.length : Int)), (18, vi (wI ((i : Int) + 1)))] (by kernel_rfl) ?_
      refine g_val 18 (vi (wI ((i : Int) + 1))) (vi ((i + 1 : Nat) : Int)) (wI_eq (by omega) (by omega) (by omega)) (by kernel_rfl) ?_
      refine g_adv 2 [] 1 [(0, .slice (some ⟨b1, o1, none⟩) l.length cp), (1, .func (.func 91) #[] #[]), (7, vi (l.length : Int)), (8, vi ((i + 1 : Nat) : Int))] (by kernel_rfl) ?_
      refine g_round ⟨i + 1, by exact ⟨by omega, any_step hi1_1 hx1 (by first | assumption | (simp_all; done))⟩⟩ [0, 0] (by first | omega | (simp; done) | (simp; omega)) (by kernel_rfl) (by kernel_rfl)
  · have h1p : ¬ ((i : Int) < (l.length : Int)) := of_decide_eq_false h1
    obtain rfl : i = l.length := by omega
    rw [List.take_length] at hi1_1
    refine g_adv 6 [] 5 [(4, vi (-1))] (by kernel_rfl) ?_
    refine g_post () [0, 0] [vi (-1)] (.tmp (by kernel_rfl) .nil) (by first | (rw [idx_hit hi1_1 hx1 (by first | assumption | (simp_all; done))]; rfl) | (rw [idx_none hi1_1]; rfl)) (by kernel_rfl)

theorem c_contains_long (a : Option Addr) (cp : Nat) (l : List (RowR (List Instr))) (X : SP) (rl : Reads X 1 encR2 a l) (hl : l.length ≤ 1099511627776) : Ct Tryz.prog 90 [.slice a l.length cp, .func (.func 91) #[] #[]] [.sp X] (fun _ : Unit => vb (l.any (fun r => decide ((r.l.length : Int) > 20)))) (fun _ => [.sp X]) := by
  refine ct_intro Tryz.f90 9 Tryz.func90 rfl rfl rfl (fun E R => ?_)
  refine g_adv 8 [.o 6 2, .c 7] 1 [(5, .slice a l.length cp), (6, .func (.func 91) #[] #[])] (by kernel_rfl) ?_
  refine g_op (by kernel_rfl) (ot_call [0] (c_index_long a cp l X rl (by first | omega | assumption | (simp; done) | (simp; omega))) (by kernel_rfl) (by kernel_rfl) ?_)
  intro _
  refine g_adv 4 [] 2 [(4, vb (decide (idxOf (fun r => decide ((r.l.length : Int) > 20)) l ≥ 0)))] (by kernel_rfl) ?_
  refine g_post () [0, 0] [vb (decide (idxOf (fun r => decide ((r.l.length : Int) > 20)) l ≥ 0))] (.tmp (by kernel_rfl) .nil) (by rw [← idx_any]; rfl) (by kernel_rfl)

theorem c_stm_New_core (c : Conf) (a : Option Addr) (cp : Nat) (l : List Int) (ta : Option Addr) (tcp : Nat) (rs : List (RowR (List Instr))) (X : SP) (rl : Reads X 1 encI a l) (rt : Reads X 1 encR2 ta rs) (hb : ¬ (check c = 0 ∧ (l.length : Int) = words c)) : Ct Tryz.prog 42 [.agg #[vi c.regions, vi c.objects, vi c.stripes, vi c.width, vi c.threads, vi c.slots, vi c.regs, vi c.locks, vi c.undo, vi c.escalate, vi c.tickets, vi c.policy], .slice a l.length cp, .slice ta rs.length tcp] [.sp X] (fun _ : Unit => .tuple #[.pointer none, vi 1]) (fun _ => [.sp X]) := by
  refine ct_intro Tryz.f42 78 Tryz.func42 rfl rfl rfl (fun E R => ?_)
  refine g_adv 2 [.o 2 0, .c 3] 1 [(0, .agg #[vi c.regions, vi c.objects, vi c.stripes, vi c.width, vi c.threads, vi c.slots, vi c.regs, vi c.locks, vi c.undo, vi c.escalate, vi c.tickets, vi c.policy]), (1, .slice a l.length cp), (2, .slice ta rs.length tcp)] (by kernel_rfl) ?_
  refine g_op (by kernel_rfl) (ot_new #[vi c.regions, vi c.objects, vi c.stripes, vi c.width, vi c.threads, vi c.slots, vi c.regs, vi c.locks, vi c.undo, vi c.escalate, vi c.tickets, vi c.policy] 25 (by kernel_rfl) ?_)
  intro b1
  refine g_adv 5 [.o 6 0, .c 7] 2 [(1, .slice a l.length cp), (2, .slice ta rs.length tcp), (3, pt b1 0)] (by kernel_rfl) ?_
  refine g_op (by kernel_rfl) (ot_loadA 0 b1 0 [vi c.regions, vi c.objects, vi c.stripes, vi c.width, vi c.threads, vi c.slots, vi c.regs, vi c.locks, vi c.undo, vi c.escalate, vi c.tickets, vi c.policy] (by kernel_rfl) (by kernel_rfl) ?_)
  refine g_adv 1 [.o 6 2] 1 [(2, .slice ta rs.length tcp), (3, pt b1 0), (16, .agg #[vi c.regions, vi c.objects, vi c.stripes, vi c.width, vi c.threads, vi c.slots, vi c.regs, vi c.locks, vi c.undo, vi c.escalate, vi c.tickets, vi c.policy]), (17, .slice a l.length cp)] (by kernel_rfl) ?_
  refine g_op (by kernel_rfl) (ot_call [1] (c_core_New_bad c a cp l X rl (by first | omega | assumption | (simp; done) | (simp; omega))) (by kernel_rfl) (by kernel_rfl) ?_)
  intro _
  refine g_adv 22 [] 2 [(6, .pointer none), (7, vi 1)] (by kernel_rfl) ?_
  refine g_post () [0, 1] [.pointer none, vi 1] (.tmp (by kernel_rfl) (.tmp (by kernel_rfl) .nil)) (rfl) (by kernel_rfl)

theorem c_stm_New_range (c : Conf) (a : Option Addr) (cp : Nat) (l : List Int) (ta : Option Addr) (tcp : Nat) (rs : List (RowR (List Instr))) (X : SP) (rl : Reads X 1 encI a l) (rt : Reads X 1 encR2 ta rs) (hk : c.Ok) (hw : (l.length : Int) = words c) (hls : rs.length ≤ 1099511627776) (hr : (rs.length : Int) > c.threads ∨ rs.any (fun r => decide ((r.l.length : Int) > 20)) = true) : Ct Tryz.prog 42 [.agg #[vi c.regions, vi c.objects, vi c.stripes, vi c.width, vi c.threads, vi c.slots, vi c.regs, vi c.locks, vi c.undo, vi c.escalate, vi c.tickets, vi c.policy], .slice a l.length cp, .slice ta rs.length tcp] [.sp X] (fun _ : Unit => .tuple #[.pointer none, vi 1]) (fun _ => [.sp X]) := by
  refine ct_intro Tryz.f42 78 Tryz.func42 rfl rfl rfl (fun E R => ?_)
  refine g_adv 2 [.o 2 0, .c 3] 1 [(0, .agg #[vi c.regions, vi c.objects, vi c.stripes, vi c.width, vi c.threads, vi c.slots, vi c.regs, vi c.locks, vi c.undo, vi c.escalate, vi c.tickets, vi c.policy]), (1, .slice a l.length cp), (2, .slice ta rs.length tcp)] (by kernel_rfl) ?_
  refine g_op (by kernel_rfl) (ot_new #[vi c.regions, vi c.objects, vi c.stripes, vi c.width, vi c.threads, vi c.slots, vi c.regs, vi c.locks, vi c.undo, vi c.escalate, vi c.tickets, vi c.policy] 25 (by kernel_rfl) ?_)
  intro b1
  refine g_adv 5 [.o 6 0, .c 7] 2 [(1, .slice a l.length cp), (2, .slice ta rs.length tcp), (3, pt b1 0)] (by kernel_rfl) ?_
  refine g_op (by kernel_rfl) (ot_loadA 0 b1 0 [vi c.regions, vi c.objects, vi c.stripes, vi c.width, vi c.threads, vi c.slots, vi c.regs, vi c.locks, vi c.undo, vi c.escalate, vi c.tickets, vi c.policy] (by kernel_rfl) (by kernel_rfl) ?_)
  refine g_adv 1 [.o 6 2] 1 [(2, .slice ta rs.length tcp), (3, pt b1 0), (16, .agg #[vi c.regions, vi c.objects, vi c.stripes, vi c.width, vi c.threads, vi c.slots, vi c.regs, vi c.locks, vi c.undo, vi c.escalate, vi c.tickets, vi c.policy]), (17, .slice a l.length cp)] (by kernel_rfl) ?_
  refine g_op (by kernel_rfl) (ot_call [1] (c_core_New c a cp l X rl (by first | omega | assumption | (simp; done) | (simp; omega)) (by first | omega | assumption | (simp; done) | (simp; omega))) (by kernel_rfl) (by kernel_rfl) ?_)
  intro p1
  refine g_adv 20 [.o 230 3, .c 231, .b 0, .c 15] 2 [(2, .slice ta rs.length tcp), (3, pt b1 0), (8, pt p1 0), (27, vi (rs.length : Int)), (28, pt b1 4)] (by kernel_rfl) ?_
  refine g_op (by kernel_rfl) (ot_load 2 b1 4 (vi c.threads) (by kernel_rfl) (by kernel_rfl) ?_)
  refine g_adv 2 [.o 230 6] 1 [(2, .slice ta rs.length tcp), (3, pt b1 0), (8, pt p1 0), (31, vb (decide ((rs.length : Int) > c.threads)))] (by kernel_rfl) ?_
  refine g_bool 31 (decide ((rs.length : Int) > c.threads)) (by kernel_rfl) (fun h1 => ?_) (fun h1 => ?_)
  · have h1p : (rs.length : Int) > c.threads := of_decide_eq_true h1
    refine g_adv 12 [] 4 [(6, .pointer none), (7, vi 1)] (by kernel_rfl) ?_
    refine g_post () [1, 2] [.pointer none, vi 1] (.tmp (by kernel_rfl) (.tmp (by kernel_rfl) .nil)) (rfl) (by kernel_rfl)
  · have h1p : ¬ ((rs.length : Int) > c.threads) := of_decide_eq_false h1
    refine g_adv 1 [.o 230 7] 1 [(2, .slice ta rs.length tcp), (3, pt b1 0), (8, pt p1 0), (31, vb false), (32, .slice ta rs.length tcp)] (by kernel_rfl) ?_
    refine g_op (by kernel_rfl) (ot_call [1] (c_contains_long ta tcp rs X rt (by first | omega | assumption | (simp; done) | (simp; omega))) (by kernel_rfl) (by kernel_rfl) ?_)
    intro _
    refine g_adv 3 [] 1 [(2, .slice ta rs.length tcp), (3, pt b1 0), (8, pt p1 0), (25, vb (rs.any (fun r => decide ((r.l.length : Int) > 20))))] (by kernel_rfl) ?_
    refine g_cond (rs.any (fun r => decide ((r.l.length : Int) > 20))) (by kernel_rfl) (fun h2 => ?_) (fun h2 => ?_)
    · have h2p : rs.any (fun r => decide ((r.l.length : Int) > 20)) = true := h2
      refine g_adv 6 [] 3 [(6, .pointer none), (7, vi 1)] (by kernel_rfl) ?_
      refine g_post () [0, 2] [.pointer none, vi 1] (.tmp (by kernel_rfl) (.tmp (by kernel_rfl) .nil)) (rfl) (by kernel_rfl)
    · have h2p : rs.any (fun r => decide ((r.l.length : Int) > 20)) = false := h2
      exfalso; rcases hr with q | q <;> simp_all

theorem c_stm_New_form (c : Conf) (a : Option Addr) (cp : Nat) (l : List Int) (ta : Option Addr) (tcp : Nat) (rs : List (RowR (List Instr))) (X : SP) (rl : Reads X 1 encI a l) (rt : Reads X 1 encR2 ta rs) (hk : c.Ok) (hw : (l.length : Int) = words c) (hls : rs.length ≤ 1099511627776) (hth : (rs.length : Int) ≤ c.threads) (hsh : rs.any (fun r => decide ((r.l.length : Int) > 20)) = false) (hall : ∀ r ∈ rs, RProgs X r) (hbad : (rs.map RowR.l).all (goodT c) = false) : Ct Tryz.prog 42 [.agg #[vi c.regions, vi c.objects, vi c.stripes, vi c.width, vi c.threads, vi c.slots, vi c.regs, vi c.locks, vi c.undo, vi c.escalate, vi c.tickets, vi c.policy], .slice a l.length cp, .slice ta rs.length tcp] [.sp X] (fun _ : Unit => .tuple #[.pointer none, vi 2]) (fun _ => [.sp X]) := by
  refine ct_intro Tryz.f42 78 Tryz.func42 rfl rfl rfl (fun E R => ?_)
  have hq3 := hk.threads; have hqu := hk.undo
  refine g_adv 2 [.o 2 0, .c 3] 1 [(0, .agg #[vi c.regions, vi c.objects, vi c.stripes, vi c.width, vi c.threads, vi c.slots, vi c.regs, vi c.locks, vi c.undo, vi c.escalate, vi c.tickets, vi c.policy]), (1, .slice a l.length cp), (2, .slice ta rs.length tcp)] (by kernel_rfl) ?_
  refine g_op (by kernel_rfl) (ot_new #[vi c.regions, vi c.objects, vi c.stripes, vi c.width, vi c.threads, vi c.slots, vi c.regs, vi c.locks, vi c.undo, vi c.escalate, vi c.tickets, vi c.policy] 25 (by kernel_rfl) ?_)
  intro b1
  refine g_adv 5 [.o 6 0, .c 7] 2 [(1, .slice a l.length cp), (2, .slice ta rs.length tcp), (3, pt b1 0)] (by kernel_rfl) ?_
  refine g_op (by kernel_rfl) (ot_loadA 0 b1 0 [vi c.regions, vi c.objects, vi c.stripes, vi c.width, vi c.threads, vi c.slots, vi c.regs, vi c.locks, vi c.undo, vi c.escalate, vi c.tickets, vi c.policy] (by kernel_rfl) (by kernel_rfl) ?_)
  refine g_adv 1 [.o 6 2] 1 [(2, .slice ta rs.length tcp), (3, pt b1 0), (16, .agg #[vi c.regions, vi c.objects, vi c.stripes, vi c.width, vi c.threads, vi c.slots, vi c.regs, vi c.locks, vi c.undo, vi c.escalate, vi c.tickets, vi c.policy]), (17, .slice a l.length cp)] (by kernel_rfl) ?_
  refine g_op (by kernel_rfl) (ot_call [1] (c_core_New c a cp l X rl (by first | omega | assumption | (simp; done) | (simp; omega)) (by first | omega | assumption | (simp; done) | (simp; omega))) (by kernel_rfl) (by kernel_rfl) ?_)
  intro p1
  refine g_adv 20 [.o 230 3, .c 231, .b 0, .c 15] 2 [(2, .slice ta rs.length tcp), (3, pt b1 0), (8, pt p1 0), (27, vi (rs.length : Int)), (28, pt b1 4)] (by kernel_rfl) ?_
  refine g_op (by kernel_rfl) (ot_load 2 b1 4 (vi c.threads) (by kernel_rfl) (by kernel_rfl) ?_)
  refine g_adv 2 [.o 230 6] 1 [(2, .slice ta rs.length tcp), (3, pt b1 0), (8, pt p1 0), (31, vb (decide ((rs.length : Int) > c.threads)))] (by kernel_rfl) ?_
  refine g_bool 31 (decide ((rs.length : Int) > c.threads)) (by kernel_rfl) (fun h1 => ?_) (fun h1 => ?_)
  · have h1p : (rs.length : Int) > c.threads := of_decide_eq_true h1
    exfalso; omega
  · have h1p : ¬ ((rs.length : Int) > c.threads) := of_decide_eq_false h1
    refine g_adv 1 [.o 230 7] 1 [(2, .slice ta rs.length tcp), (3, pt b1 0), (8, pt p1 0), (31, vb false), (32, .slice ta rs.length tcp)] (by kernel_rfl) ?_
    refine g_op (by kernel_rfl) (ot_call [1] (c_contains_long ta tcp rs X rt (by first | omega | assumption | (simp; done) | (simp; omega))) (by kernel_rfl) (by kernel_rfl) ?_)
    intro _
    refine g_adv 3 [] 1 [(2, .slice ta rs.length tcp), (3, pt b1 0), (8, pt p1 0), (25, vb (rs.any (fun r => decide ((r.l.length : Int) > 20))))] (by kernel_rfl) ?_
    refine g_cond (rs.any (fun r => decide ((r.l.length : Int) > 20))) (by kernel_rfl) (fun h2 => ?_) (fun h2 => ?_)
    · have h2p : rs.any (fun r => decide ((r.l.length : Int) > 20)) = true := h2
      exfalso; simp_all
    · have h2p : rs.any (fun r => decide ((r.l.length : Int) > 20)) = false := h2
      refine g_adv 7 [.o 30 3, .c 31] 3 [(2, .slice ta rs.length tcp), (3, pt b1 0), (8, pt p1 0), (37, .agg #[pt p1 0, .slice none 0 0])] (by kernel_rfl) ?_
      refine g_op (by kernel_rfl) (ot_new #[pt p1 0, .slice none 0 0] 147 (by kernel_rfl) ?_)
      intro b2
      refine g_adv 6 [.o 124 1, .c 125, .c 63] 2 [(2, .slice ta rs.length tcp), (3, pt b1 0), (8, pt p1 0), (10, pt b2 0), (39, pt b1 4)] (by kernel_rfl) ?_
      refine g_op (by kernel_rfl) (ot_load 3 b1 4 (vi c.threads) (by kernel_rfl) (by kernel_rfl) ?_)
      refine g_adv 3 [.c 250, .b 1] 2 [(2, .slice ta rs.length tcp), (3, pt b1 0), (8, pt p1 0), (10, pt b2 0), (40, vi c.threads), (41, vi 0)] (by kernel_rfl) ?_
      refine g_nil 40 1 encP (fun _ => rfl) ?_
      refine g_many0 (HandQ p1) ?_
      refine g_loop' (fun (x : { x : Nat × (Option Addr) × Nat × (List Nat) // match x with | (i, ha, hc, hs) => (i : Int) ≤ c.threads ∧ hs.length = i ∧ ((rs.map RowR.l).take i).all (goodT c) = true }) => match x.1 with | (i, ha, hc, hs) => ([(2, .slice ta rs.length tcp), (3, pt b1 0), (8, pt p1 0), (10, pt b2 0), (40, vi c.threads), (41, vi (i : Int))], [.obj b2 (.cells #[pt p1 0, .slice ha hs.length hc] 147 (0, 0)), .sp X, .sp (CoreP p1 (newCore c l)), .obj b1 (.cells #[vi c.regions, vi c.objects, vi c.stripes, vi c.width, vi c.threads, vi c.slots, vi c.regs, vi c.locks, vi c.undo, vi c.escalate, vi c.tickets, vi c.policy] 25 (0, 0)), .sp R, .sp (Sl 40 1 encP ha hc hs), .sp (Many (HandQ p1) hs (newHands c.undo (rs.map RowR.l) i))])) (fun (x : { x : Nat × (Option Addr) × Nat × (List Nat) // match x with | (i, ha, hc, hs) => (i : Int) ≤ c.threads ∧ hs.length = i ∧ ((rs.map RowR.l).take i).all (goodT c) = true }) => match x.1 with | (i, ha, hc, hs) => c.threads.toNat - i) ⟨(0, none, 0, []), by exact ⟨by omega, rfl, rfl⟩⟩ [2, 2, 2, 2, 2, 1, 0] (by kernel_rfl) (by kernel_rfl) (by kernel_rfl) ?_
      rintro ⟨⟨i, ha, hc, hs⟩, hi1⟩
      have hi1 : (i : Int) ≤ c.threads ∧ hs.length = i ∧ ((rs.map RowR.l).take i).all (goodT c) = true := hi1
      obtain ⟨hi1_0, hi1_1, hi1_2⟩ := hi1
      refine g_adv 5 [.c 2002, .c 2003] 1 [(2, .slice ta rs.length tcp), (3, pt b1 0), (8, pt p1 0), (10, pt b2 0), (40, vi c.threads), (41, vi (i : Int)), (42, vb (decide ((i : Int) < c.threads)))] (by kernel_rfl) ?_
      refine g_cond (decide ((i : Int) < c.threads)) (by kernel_rfl) (fun h3 => ?_) (fun h3 => ?_)
      · have h3p : (i : Int) < c.threads := of_decide_eq_true h3
        refine g_adv 20 [.c 128205, .c 64103, .b 2, .c 4007] 2 [(2, .slice ta rs.length tcp), (3, pt b1 0), (8, pt p1 0), (10, pt b2 0), (11, vi (i : Int)), (12, .slice none 0 0), (40, vi c.threads), (41, vi (i : Int)), (47, vb (decide ((i : Int) < (rs.length : Int))))] (by kernel_rfl) ?_
        refine g_cond (decide ((i : Int) < (rs.length : Int))) (by kernel_rfl) (fun h4 => ?_) (fun h4 => ?_)
        · have h4p : (i : Int) < (rs.length : Int) := of_decide_eq_true h4
          refine g_adv 3 [.o 256410 2] 1 [(2, .slice ta rs.length tcp), (3, pt b1 0), (8, pt p1 0), (10, pt b2 0), (11, vi (i : Int)), (40, vi c.threads), (41, vi (i : Int)), (48, .slice ta rs.length tcp), (49, vi (i : Int))] (by kernel_rfl) ?_
          refine g_some 1 rt (by kernel_rfl) (by omega) ?_
          rintro b3 o1 rfl
          refine g_op (by kernel_rfl) (ot_val (pt b3 (o1 + i * 1)) (run_ix b3 o1 rs.length tcp (i : Int) 1 (by kernel_rfl) (by omega) (by omega)) ?_)
          obtain ⟨⟨xa1, xc1, xl1⟩, hx1⟩ : ∃ x, rs[i]? = some x := ⟨_, List.getElem?_eq_getElem (by omega)⟩
          have hq1 := hall (RowR.mk xa1 xc1 xl1) (List.mem_of_getElem? hx1)
          refine g_op (by kernel_rfl) (ot_loadS 1 b3 o1 i 0 (o1 + i * 1) (.slice xa1 xl1.length xc1) rt (by kernel_rfl) (by kernel_rfl) (by rfl) hx1 (by rfl) ?_)
          have hh1 := hq1
          obtain ⟨hcap1, hsm1, raws1, he1, hr1, hall1⟩ := hh1
          try dsimp only at hcap1 hsm1
          have he1 : xl1 = raws1.map RowR.l := he1
          have hlen1 : xl1.length = raws1.length := by rw [he1, List.length_map]
          refine g_adv 10 [.c 512826, .b 3, .c 128207] 2 [(2, .slice (some ⟨b3, o1, none⟩) rs.length tcp), (3, pt b1 0), (8, pt p1 0), (10, pt b2 0), (11, vi (i : Int)), (12, .slice xa1 xl1.length xc1), (40, vi c.threads), (41, vi (i : Int)), (52, .slice xa1 xl1.length xc1), (53, vi (xl1.length : Int)), (54, vi 0)] (by kernel_rfl) ?_
          refine g_loop' (fun (x : { x : Nat // match x with | j => j ≤ xl1.length ∧ goodT c (xl1.take j) = true }) => match x.1 with | j => ([(2, .slice (some ⟨b3, o1, none⟩) rs.length tcp), (3, pt b1 0), (8, pt p1 0), (10, pt b2 0), (11, vi (i : Int)), (12, .slice xa1 xl1.length xc1), (40, vi c.threads), (41, vi (i : Int)), (52, .slice xa1 xl1.length xc1), (53, vi (xl1.length : Int)), (54, vi (j : Int))], [.obj b2 (.cells #[pt p1 0, .slice ha hs.length hc] 147 (0, 0)), .sp X, .sp (CoreP p1 (newCore c l)), .obj b1 (.cells #[vi c.regions, vi c.objects, vi c.stripes, vi c.width, vi c.threads, vi c.slots, vi c.regs, vi c.locks, vi c.undo, vi c.escalate, vi c.tickets, vi c.policy] 25 (0, 0)), .sp R, .sp (Sl 40 1 encP ha hc hs), .sp (Many (HandQ p1) hs (newHands c.undo (rs.map RowR.l) i))])) (fun (x : { x : Nat // match x with | j => j ≤ xl1.length ∧ goodT c (xl1.take j) = true }) => match x.1 with | j => xl1.length - j) ⟨0, by exact ⟨by omega, rfl⟩⟩ [0, 0, 0, 0, 0, 0, 0] (by kernel_rfl) (by kernel_rfl) (by kernel_rfl) ?_
          rintro ⟨j, hi2⟩
          have hi2 : j ≤ xl1.length ∧ goodT c (xl1.take j) = true := hi2
          obtain ⟨hi2_0, hi2_1⟩ := hi2
          refine g_adv 5 [.c 4102610, .c 4102611] 1 [(2, .slice (some ⟨b3, o1, none⟩) rs.length tcp), (3, pt b1 0), (8, pt p1 0), (10, pt b2 0), (11, vi (i : Int)), (12, .slice xa1 xl1.length xc1), (40, vi c.threads), (41, vi (i : Int)), (52, .slice xa1 xl1.length xc1), (53, vi (xl1.length : Int)), (54, vi (j : Int)), (55, vb (decide ((j : Int) < (xl1.length : Int))))] (by kernel_rfl) ?_
          refine g_cond (decide ((j : Int) < (xl1.length : Int))) (by kernel_rfl) (fun h5 => ?_) (fun h5 => ?_)
          · have h5p : (j : Int) < (xl1.length : Int) := of_decide_eq_true h5
            refine g_adv 5 [.o 32820888 0, .c 32820889, .b 4, .c 8205223] 2 [(2, .slice (some ⟨b3, o1, none⟩) rs.length tcp), (3, pt b1 0), (8, pt p1 0), (10, pt b2 0), (11, vi (i : Int)), (12, .slice xa1 xl1.length xc1), (40, vi c.threads), (41, vi (i : Int)), (52, .slice xa1 xl1.length xc1), (53, vi (xl1.length : Int)), (54, vi (j : Int))] (by kernel_rfl) ?_
            refine g_some 1 hr1 (by kernel_rfl) (by omega) ?_
            rintro b4 o2 rfl
            refine g_op (by kernel_rfl) (ot_val (pt b4 (o2 + j * 1)) (run_ix b4 o2 xl1.length xc1 (j : Int) 1 (by kernel_rfl) (by omega) (by omega)) ?_)
            obtain ⟨⟨xa2, xc2, xl2⟩, hx2⟩ : ∃ x, raws1[j]? = some x := ⟨_, List.getElem?_eq_getElem (by omega)⟩
            have hq2 := hall1 (RowR.mk xa2 xc2 xl2) (List.mem_of_getElem? hx2)
            refine g_op (by kernel_rfl) (ot_loadS 1 b4 o2 j 0 (o2 + j * 1) (.slice xa2 xl2.length xc2) hr1 (by kernel_rfl) (by kernel_rfl) (by rfl) hx2 (by rfl) ?_)
            refine g_adv 4 [.o 65641778 0, .c 65641779] 2 [(2, .slice (some ⟨b3, o1, none⟩) rs.length tcp), (3, pt b1 0), (8, pt p1 0), (10, pt b2 0), (11, vi (i : Int)), (12, .slice (some ⟨b4, o2, none⟩) xl1.length xc1), (14, .slice xa2 xl2.length xc2), (40, vi c.threads), (41, vi (i : Int)), (52, .slice (some ⟨b4, o2, none⟩) xl1.length xc1), (53, vi (xl1.length : Int)), (54, vi (j : Int))] (by kernel_rfl) ?_
            refine g_op (by kernel_rfl) (ot_loadA 3 b1 0 [vi c.regions, vi c.objects, vi c.stripes, vi c.width, vi c.threads, vi c.slots, vi c.regs, vi c.locks, vi c.undo, vi c.escalate, vi c.tickets, vi c.policy] (by kernel_rfl) (by kernel_rfl) ?_)
            refine g_adv 1 [.o 65641778 2] 1 [(2, .slice (some ⟨b3, o1, none⟩) rs.length tcp), (3, pt b1 0), (8, pt p1 0), (10, pt b2 0), (11, vi (i : Int)), (12, .slice (some ⟨b4, o2, none⟩) xl1.length xc1), (40, vi c.threads), (41, vi (i : Int)), (52, .slice (some ⟨b4, o2, none⟩) xl1.length xc1), (53, vi (xl1.length : Int)), (54, vi (j : Int)), (58, .agg #[vi c.regions, vi c.objects, vi c.stripes, vi c.width, vi c.threads, vi c.slots, vi c.regs, vi c.locks, vi c.undo, vi c.escalate, vi c.tickets, vi c.policy]), (59, .slice xa2 xl2.length xc2)] (by kernel_rfl) ?_
            refine g_op (by kernel_rfl) (ot_call [1] (c_prog_Check c xa2 xc2 xl2 X (by first | omega | assumption | (simp; done) | (simp; omega))) (by kernel_rfl) (by kernel_rfl) ?_)
            intro _
            refine g_adv 2 [] 1 [(2, .slice (some ⟨b3, o1, none⟩) rs.length tcp), (3, pt b1 0), (8, pt p1 0), (10, pt b2 0), (11, vi (i : Int)), (12, .slice (some ⟨b4, o2, none⟩) xl1.length xc1), (40, vi c.threads), (41, vi (i : Int)), (52, .slice (some ⟨b4, o2, none⟩) xl1.length xc1), (53, vi (xl1.length : Int)), (54, vi (j : Int)), (61, vb (checkP c xl2 != 0))] (by kernel_rfl) ?_
            refine g_cond (checkP c xl2 != 0) (by kernel_rfl) (fun h6 => ?_) (fun h6 => ?_)
            · have h6p : checkP c xl2 ≠ 0 := bne_iff_ne.1 h6
              refine g_adv 6 [] 11 [(6, .pointer none), (7, vi 2)] (by kernel_rfl) ?_
              refine g_post () [0, 3] [.pointer none, vi 2] (.tmp (by kernel_rfl) (.tmp (by kernel_rfl) .nil)) (rfl) (by kernel_rfl)
            · have h6p : checkP c xl2 = 0 := (by simpa using h6)
              refine g_adv 4 [.o 8205223 1] 3 [(2, .slice (some ⟨b3, o1, none⟩) rs.length tcp), (3, pt b1 0), (8, pt p1 0), (10, pt b2 0), (11, vi (i : Int)), (12, .slice (some ⟨b4, o2, none⟩) xl1.length xc1), (40, vi c.threads), (41, vi (i : Int)), (52, .slice (some ⟨b4, o2, none⟩) xl1.length xc1), (53, vi (xl1.length : Int)), (62, vi (wI ((j : Int) + 1)))] (by kernel_rfl) ?_
              refine g_val 62 (vi (wI ((j : Int) + 1))) (vi ((j + 1 : Nat) : Int)) (wI_eq (by omega) (by omega) (by omega)) (by kernel_rfl) ?_
              refine g_adv 2 [] 1 [(2, .slice (some ⟨b3, o1, none⟩) rs.length tcp), (3, pt b1 0), (8, pt p1 0), (10, pt b2 0), (11, vi (i : Int)), (12, .slice (some ⟨b4, o2, none⟩) xl1.length xc1), (40, vi c.threads), (41, vi (i : Int)), (52, .slice (some ⟨b4, o2, none⟩) xl1.length xc1), (53, vi (xl1.length : Int)), (54, vi ((j + 1 : Nat) : Int))] (by kernel_rfl) ?_
              refine g_round ⟨j + 1, by exact ⟨by omega, all_step hi2_1 (he1 ▸ map_at hx2) (decide_eq_true (by assumption))⟩⟩ [1, 0, 0, 0, 0, 0, 0] (by first | omega | (simp; done) | (simp; omega)) (by kernel_rfl) (by kernel_rfl)
          · have h5p : ¬ ((j : Int) < (xl1.length : Int)) := of_decide_eq_false h5
            obtain rfl : j = xl1.length := by omega
            rw [List.take_length] at hi2_1
            refine g_adv 1 [] 4 [(2, .slice (some ⟨b3, o1, none⟩) rs.length tcp), (3, pt b1 0), (8, pt p1 0), (10, pt b2 0), (11, vi (i : Int)), (12, .slice xa1 xl1.length xc1), (40, vi c.threads), (41, vi (i : Int))] (by kernel_rfl) ?_
            refine d_start (by kernel_rfl) (by kernel_rfl) ?_
            refine d_run1 [(0, pt b2 0), (1, pt b2 0), (2, pt b2 0), (3, pt b2 1), (4, .slice ha hs.length hc), (5, pt p1 0), (6, vi (i : Int)), (7, .slice xa1 xl1.length xc1)] 8 (by kernel_rfl) (.plainN 4 (by kernel_rfl) (.one _ _ (evOK_loadC 0 b2 1 _ (by kernel_rfl) (by kernel_rfl)) (.plainN 3 (by kernel_rfl) .nil))) (by kernel_rfl) (ot_call [1, 1] (c_hand_New p1 (i : Int) xa1 xc1 xl1 X (newCore c l) (by first | assumption | exact rprogs_nil) (by exact hk)) (by kernel_rfl) (by kernel_rfl) ?_)
            intro p2
            refine d_run1 [] 9 (by kernel_rfl) (.done _ _ (by kernel_rfl) (.plainN 4 (by kernel_rfl) (.one _ _ (evOK_loadC 3 b2 1 _ (by kernel_rfl) (by kernel_rfl)) (.plainN 3 (by kernel_rfl) .nil)))) (by kernel_rfl) (ot_lit 40 1 #[pt p2 0] (by kernel_rfl) ?_)
            intro b4
            refine d_lit 0 b4 #[pt p2 0] 40 1 encP (fun _ => rfl) [p2] (by kernel_rfl) (by rfl) ?_
            refine d_run1 [] 10 (by kernel_rfl) (.done _ _ (by kernel_rfl) (.done _ _ (by kernel_rfl) (.plainN 4 (by kernel_rfl) (.one _ _ (evOK_loadC 4 b2 1 _ (by kernel_rfl) (by kernel_rfl)) (.plainN 3 (by kernel_rfl) .nil))))) (by kernel_rfl) (ot_append (T := 40) (sz := 1) (enc := encP) (ad := ha) (cap := hc) (l := hs) (ys := [p2]) (ya := (some ⟨b4, 0, none⟩)) (yc := 1) (Y := (Sl 40 1 encP (some ⟨b4, 0, none⟩) 1 [p2])) 7 0 8 Sl.reads (by kernel_rfl) (by kernel_rfl) (by kernel_rfl) (fun _ => rfl) (by first | omega | (simp; omega) | (simp at *; omega)) (by first | omega | (simp; omega) | (simp at *; omega)) ?_)
            intro a1 c1
            refine d_done [4] (by kernel_rfl) ?_
            refine d_run1 [(11, pt b2 0), (12, pt b2 1)] 13 (by kernel_rfl) (.plainN 2 (by kernel_rfl) (.done _ _ (by kernel_rfl) (.done _ _ (by kernel_rfl) (.done _ _ (by kernel_rfl) (.plainN 4 (by kernel_rfl) (.done _ _ (by kernel_rfl) (.plainN 3 (by kernel_rfl) .nil))))))) (by kernel_rfl) (ot_store 4 b2 1 [.slice a1 ((hs ++ [p2]).length) c1] (by kernel_rfl) (by kernel_rfl) ?_)
            refine d_end [] [(2, .slice (some ⟨b3, o1, none⟩) rs.length tcp), (3, pt b1 0), (8, pt p1 0), (10, pt b2 0), (40, vi c.threads), (41, vi (i : Int))] (by kernel_rfl) (.done _ _ (by kernel_rfl) (.plainN 2 (by kernel_rfl) (.done _ _ (by kernel_rfl) (.done _ _ (by kernel_rfl) (.done _ _ (by kernel_rfl) (.plainN 4 (by kernel_rfl) (.done _ _ (by kernel_rfl) (.plainN 3 (by kernel_rfl) .nil)))))))) (by kernel_rfl) ?_
            refine g_adv 3 [.o 4007 1] 2 [(2, .slice (some ⟨b3, o1, none⟩) rs.length tcp), (3, pt b1 0), (8, pt p1 0), (10, pt b2 0), (40, vi c.threads), (76, vi (wI ((i : Int) + 1)))] (by kernel_rfl) ?_
            refine g_val 76 (vi (wI ((i : Int) + 1))) (vi ((i + 1 : Nat) : Int)) (wI_eq (by omega) (by omega) (by omega)) (by kernel_rfl) ?_
            refine g_adv 2 [] 1 [(2, .slice (some ⟨b3, o1, none⟩) rs.length tcp), (3, pt b1 0), (8, pt p1 0), (10, pt b2 0), (40, vi c.threads), (41, vi ((i + 1 : Nat) : Int))] (by kernel_rfl) ?_
            refine g_snoc (HandQ p1) hs (newHands c.undo (rs.map RowR.l) i) p2 (newHand (i : Int) xl1 (newCore c l).parts.conf.undo) [1, 7] (by kernel_rfl) ?_
            refine g_sp 0 (Many (HandQ p1) (hs ++ [p2]) ((newHands c.undo (rs.map RowR.l) i) ++ [(newHand (i : Int) xl1 (newCore c l).parts.conf.undo)])) (Many (HandQ p1) (hs ++ [p2]) (newHands c.undo (rs.map RowR.l) (i + 1))) (by kernel_rfl) (congrArg (fun z_ => Many (HandQ p1) (hs ++ [p2]) z_) (show (newHands c.undo (rs.map RowR.l) i) ++ [(newHand (i : Int) xl1 (newCore c l).parts.conf.undo)] = (newHands c.undo (rs.map RowR.l) (i + 1)) from by first | exact newHands_step (getD_at (map_at hx1)) | exact newHands_step (getD_out (by simp; omega)))) ?_
            refine g_round ⟨(i + 1, a1, c1, hs ++ [p2]), by first | exact ⟨by omega, by simp; omega, all_step hi1_2 (map_at hx1) hi2_1⟩ | exact ⟨by omega, by simp; omega, by rw [List.take_of_length_le (by simp; omega)]; rw [List.take_of_length_le (by simp; omega)] at hi1_2; exact hi1_2⟩⟩ [4, 2, 2, 2, 2, 2, 0] (by first | omega | (simp; done) | (simp; omega)) (by kernel_rfl) (by kernel_rfl)
        · have h4p : ¬ ((i : Int) < (rs.length : Int)) := of_decide_eq_false h4
          refine g_adv 9 [.c 512826, .b 3, .c 128207] 2 [(2, .slice ta rs.length tcp), (3, pt b1 0), (8, pt p1 0), (10, pt b2 0), (11, vi (i : Int)), (12, .slice none 0 0), (40, vi c.threads), (41, vi (i : Int)), (52, .slice none 0 0), (53, vi 0), (54, vi 0)] (by kernel_rfl) ?_
          refine g_loop' (fun (x : { x : Nat // match x with | j => j = 0 }) => match x.1 with | j => ([(2, .slice ta rs.length tcp), (3, pt b1 0), (8, pt p1 0), (10, pt b2 0), (11, vi (i : Int)), (12, .slice none 0 0), (40, vi c.threads), (41, vi (i : Int)), (52, .slice none 0 0), (53, vi 0), (54, vi (j : Int))], [.obj b2 (.cells #[pt p1 0, .slice ha hs.length hc] 147 (0, 0)), .sp X, .sp (CoreP p1 (newCore c l)), .obj b1 (.cells #[vi c.regions, vi c.objects, vi c.stripes, vi c.width, vi c.threads, vi c.slots, vi c.regs, vi c.locks, vi c.undo, vi c.escalate, vi c.tickets, vi c.policy] 25 (0, 0)), .sp R, .sp (Sl 40 1 encP ha hc hs), .sp (Many (HandQ p1) hs (newHands c.undo (rs.map RowR.l) i))])) (fun (x : { x : Nat // match x with | j => j = 0 }) => match x.1 with | j => 0 - j) ⟨0, by rfl⟩ [0, 0, 0, 0, 0, 0, 0] (by kernel_rfl) (by kernel_rfl) (by kernel_rfl) ?_
          rintro ⟨j, hi2⟩
          have hi2 : j = 0 := hi2
          obtain rfl : j = 0 := by omega
          · refine g_adv 7 [] 3 [(2, .slice ta rs.length tcp), (3, pt b1 0), (8, pt p1 0), (10, pt b2 0), (11, vi (i : Int)), (12, .slice none 0 0), (40, vi c.threads), (41, vi (i : Int))] (by kernel_rfl) ?_
            refine d_start (by kernel_rfl) (by kernel_rfl) ?_
            refine d_run1 [(0, pt b2 0), (1, pt b2 0), (2, pt b2 0), (3, pt b2 1), (4, .slice ha hs.length hc), (5, pt p1 0), (6, vi (i : Int)), (7, .slice none 0 0)] 8 (by kernel_rfl) (.plainN 4 (by kernel_rfl) (.one _ _ (evOK_loadC 0 b2 1 _ (by kernel_rfl) (by kernel_rfl)) (.plainN 3 (by kernel_rfl) .nil))) (by kernel_rfl) (ot_call [1, 1] (c_hand_New p1 (i : Int) none 0 [] X (newCore c l) (by first | assumption | exact rprogs_nil) (by exact hk)) (by kernel_rfl) (by kernel_rfl) ?_)
            intro p2
            refine d_run1 [] 9 (by kernel_rfl) (.done _ _ (by kernel_rfl) (.plainN 4 (by kernel_rfl) (.one _ _ (evOK_loadC 3 b2 1 _ (by kernel_rfl) (by kernel_rfl)) (.plainN 3 (by kernel_rfl) .nil)))) (by kernel_rfl) (ot_lit 40 1 #[pt p2 0] (by kernel_rfl) ?_)
            intro b3
            refine d_lit 0 b3 #[pt p2 0] 40 1 encP (fun _ => rfl) [p2] (by kernel_rfl) (by rfl) ?_
            refine d_run1 [] 10 (by kernel_rfl) (.done _ _ (by kernel_rfl) (.done _ _ (by kernel_rfl) (.plainN 4 (by kernel_rfl) (.one _ _ (evOK_loadC 4 b2 1 _ (by kernel_rfl) (by kernel_rfl)) (.plainN 3 (by kernel_rfl) .nil))))) (by kernel_rfl) (ot_append (T := 40) (sz := 1) (enc := encP) (ad := ha) (cap := hc) (l := hs) (ys := [p2]) (ya := (some ⟨b3, 0, none⟩)) (yc := 1) (Y := (Sl 40 1 encP (some ⟨b3, 0, none⟩) 1 [p2])) 7 0 8 Sl.reads (by kernel_rfl) (by kernel_rfl) (by kernel_rfl) (fun _ => rfl) (by first | omega | (simp; omega) | (simp at *; omega)) (by first | omega | (simp; omega) | (simp at *; omega)) ?_)
            intro a1 c1
            refine d_done [4] (by kernel_rfl) ?_
            refine d_run1 [(11, pt b2 0), (12, pt b2 1)] 13 (by kernel_rfl) (.plainN 2 (by kernel_rfl) (.done _ _ (by kernel_rfl) (.done _ _ (by kernel_rfl) (.done _ _ (by kernel_rfl) (.plainN 4 (by kernel_rfl) (.done _ _ (by kernel_rfl) (.plainN 3 (by kernel_rfl) .nil))))))) (by kernel_rfl) (ot_store 4 b2 1 [.slice a1 ((hs ++ [p2]).length) c1] (by kernel_rfl) (by kernel_rfl) ?_)
            refine d_end [] [(2, .slice ta rs.length tcp), (3, pt b1 0), (8, pt p1 0), (10, pt b2 0), (40, vi c.threads), (41, vi (i : Int))] (by kernel_rfl) (.done _ _ (by kernel_rfl) (.plainN 2 (by kernel_rfl) (.done _ _ (by kernel_rfl) (.done _ _ (by kernel_rfl) (.done _ _ (by kernel_rfl) (.plainN 4 (by kernel_rfl) (.done _ _ (by kernel_rfl) (.plainN 3 (by kernel_rfl) .nil)))))))) (by kernel_rfl) ?_
            refine g_adv 3 [.o 4007 1] 2 [(2, .slice ta rs.length tcp), (3, pt b1 0), (8, pt p1 0), (10, pt b2 0), (40, vi c.threads), (76, vi (wI ((i : Int) + 1)))] (by kernel_rfl) ?_
            refine g_val 76 (vi (wI ((i : Int) + 1))) (vi ((i + 1 : Nat) : Int)) (wI_eq (by omega) (by omega) (by omega)) (by kernel_rfl) ?_
            refine g_adv 2 [] 1 [(2, .slice ta rs.length tcp), (3, pt b1 0), (8, pt p1 0), (10, pt b2 0), (40, vi c.threads), (41, vi ((i + 1 : Nat) : Int))] (by kernel_rfl) ?_
            refine g_snoc (HandQ p1) hs (newHands c.undo (rs.map RowR.l) i) p2 (newHand (i : Int) [] (newCore c l).parts.conf.undo) [1, 7] (by kernel_rfl) ?_
            refine g_sp 0 (Many (HandQ p1) (hs ++ [p2]) ((newHands c.undo (rs.map RowR.l) i) ++ [(newHand (i : Int) [] (newCore c l).parts.conf.undo)])) (Many (HandQ p1) (hs ++ [p2]) (newHands c.undo (rs.map RowR.l) (i + 1))) (by kernel_rfl) (congrArg (fun z_ => Many (HandQ p1) (hs ++ [p2]) z_) (show (newHands c.undo (rs.map RowR.l) i) ++ [(newHand (i : Int) [] (newCore c l).parts.conf.undo)] = (newHands c.undo (rs.map RowR.l) (i + 1)) from by first | exact newHands_step (getD_at (map_at hx1)) | exact newHands_step (getD_out (by simp; omega)))) ?_
            refine g_round ⟨(i + 1, a1, c1, hs ++ [p2]), by first | exact ⟨by omega, by simp; omega, all_step hi1_2 (map_at hx1) hi2_1⟩ | exact ⟨by omega, by simp; omega, by rw [List.take_of_length_le (by simp; omega)]; rw [List.take_of_length_le (by simp; omega)] at hi1_2; exact hi1_2⟩⟩ [4, 2, 2, 2, 2, 2, 0] (by first | omega | (simp; done) | (simp; omega)) (by kernel_rfl) (by kernel_rfl)
      · have h3p : ¬ ((i : Int) < c.threads) := of_decide_eq_false h3
        obtain rfl : i = c.threads.toNat := by omega
        rw [List.take_of_length_le (by simp; omega)] at hi1_2
        exact absurd hi1_2 (by simp [hbad])

theorem c_stm_New (c : Conf) (a : Option Addr) (cp : Nat) (l : List Int) (ta : Option Addr) (tcp : Nat) (rs : List (RowR (List Instr))) (X : SP) (rl : Reads X 1 encI a l) (rt : Reads X 1 encR2 ta rs) (hk : c.Ok) (hw : (l.length : Int) = words c) (hls : rs.length ≤ 1099511627776) (hth : (rs.length : Int) ≤ c.threads) (hsh : rs.any (fun r => decide ((r.l.length : Int) > 20)) = false) (hall : ∀ r ∈ rs, RProgs X r) (hgood : (rs.map RowR.l).all (goodT c) = true) : Ct Tryz.prog 42 [.agg #[vi c.regions, vi c.objects, vi c.stripes, vi c.width, vi c.threads, vi c.slots, vi c.regs, vi c.locks, vi c.undo, vi c.escalate, vi c.tickets, vi c.policy], .slice a l.length cp, .slice ta rs.length tcp] [.sp X] (fun x : Nat => match x with | p => .tuple #[pt p 0, vi 0]) (fun x => match x with | p => [.sp (MachP p (newMach c l (rs.map RowR.l))), .sp X]) := by
  refine ct_intro Tryz.f42 78 Tryz.func42 rfl rfl rfl (fun E R => ?_)
  have hq3 := hk.threads; have hqu := hk.undo
  refine g_adv 2 [.o 2 0, .c 3] 1 [(0, .agg #[vi c.regions, vi c.objects, vi c.stripes, vi c.width, vi c.threads, vi c.slots, vi c.regs, vi c.locks, vi c.undo, vi c.escalate, vi c.tickets, vi c.policy]), (1, .slice a l.length cp), (2, .slice ta rs.length tcp)] (by kernel_rfl) ?_
  refine g_op (by kernel_rfl) (ot_new #[vi c.regions, vi c.objects, vi c.stripes, vi c.width, vi c.threads, vi c.slots, vi c.regs, vi c.locks, vi c.undo, vi c.escalate, vi c.tickets, vi c.policy] 25 (by kernel_rfl) ?_)
  intro b1
  refine g_adv 5 [.o 6 0, .c 7] 2 [(1, .slice a l.length cp), (2, .slice ta rs.length tcp), (3, pt b1 0)] (by kernel_rfl) ?_
  refine g_op (by kernel_rfl) (ot_loadA 0 b1 0 [vi c.regions, vi c.objects, vi c.stripes, vi c.width, vi c.threads, vi c.slots, vi c.regs, vi c.locks, vi c.undo, vi c.escalate, vi c.tickets, vi c.policy] (by kernel_rfl) (by kernel_rfl) ?_)
  refine g_adv 1 [.o 6 2] 1 [(2, .slice ta rs.length tcp), (3, pt b1 0), (16, .agg #[vi c.regions, vi c.objects, vi c.stripes, vi c.width, vi c.threads, vi c.slots, vi c.regs, vi c.locks, vi c.undo, vi c.escalate, vi c.tickets, vi c.policy]), (17, .slice a l.length cp)] (by kernel_rfl) ?_
  refine g_op (by kernel_rfl) (ot_call [1] (c_core_New c a cp l X rl (by first | omega | assumption | (simp; done) | (simp; omega)) (by first | omega | assumption | (simp; done) | (simp; omega))) (by kernel_rfl) (by kernel_rfl) ?_)
  intro p1
  refine g_adv 20 [.o 230 3, .c 231, .b 0, .c 15] 2 [(2, .slice ta rs.length tcp), (3, pt b1 0), (8, pt p1 0), (27, vi (rs.length : Int)), (28, pt b1 4)] (by kernel_rfl) ?_
  refine g_op (by kernel_rfl) (ot_load 2 b1 4 (vi c.threads) (by kernel_rfl) (by kernel_rfl) ?_)
  refine g_adv 2 [.o 230 6] 1 [(2, .slice ta rs.length tcp), (3, pt b1 0), (8, pt p1 0), (31, vb (decide ((rs.length : Int) > c.threads)))] (by kernel_rfl) ?_
  refine g_bool 31 (decide ((rs.length : Int) > c.threads)) (by kernel_rfl) (fun h1 => ?_) (fun h1 => ?_)
  · have h1p : (rs.length : Int) > c.threads := of_decide_eq_true h1
    exfalso; omega
  · have h1p : ¬ ((rs.length : Int) > c.threads) := of_decide_eq_false h1
    refine g_adv 1 [.o 230 7] 1 [(2, .slice ta rs.length tcp), (3, pt b1 0), (8, pt p1 0), (31, vb false), (32, .slice ta rs.length tcp)] (by kernel_rfl) ?_
    refine g_op (by kernel_rfl) (ot_call [1] (c_contains_long ta tcp rs X rt (by first | omega | assumption | (simp; done) | (simp; omega))) (by kernel_rfl) (by kernel_rfl) ?_)
    intro _
    refine g_adv 3 [] 1 [(2, .slice ta rs.length tcp), (3, pt b1 0), (8, pt p1 0), (25, vb (rs.any (fun r => decide ((r.l.length : Int) > 20))))] (by kernel_rfl) ?_
    refine g_cond (rs.any (fun r => decide ((r.l.length : Int) > 20))) (by kernel_rfl) (fun h2 => ?_) (fun h2 => ?_)
    · have h2p : rs.any (fun r => decide ((r.l.length : Int) > 20)) = true := h2
      exfalso; simp_all
    · have h2p : rs.any (fun r => decide ((r.l.length : Int) > 20)) = false := h2
      refine g_adv 7 [.o 30 3, .c 31] 3 [(2, .slice ta rs.length tcp), (3, pt b1 0), (8, pt p1 0), (37, .agg #[pt p1 0, .slice none 0 0])] (by kernel_rfl) ?_
      refine g_op (by kernel_rfl) (ot_new #[pt p1 0, .slice none 0 0] 147 (by kernel_rfl) ?_)
      intro b2
      refine g_adv 6 [.o 124 1, .c 125, .c 63] 2 [(2, .slice ta rs.length tcp), (3, pt b1 0), (8, pt p1 0), (10, pt b2 0), (39, pt b1 4)] (by kernel_rfl) ?_
      refine g_op (by kernel_rfl) (ot_load 3 b1 4 (vi c.threads) (by kernel_rfl) (by kernel_rfl) ?_)
      refine g_adv 3 [.c 250, .b 1] 2 [(2, .slice ta rs.length tcp), (3, pt b1 0), (8, pt p1 0), (10, pt b2 0), (40, vi c.threads), (41, vi 0)] (by kernel_rfl) ?_
      refine g_nil 40 1 encP (fun _ => rfl) ?_
      refine g_many0 (HandQ p1) ?_
      refine g_loop' (fun (x : { x : Nat × (Option Addr) × Nat × (List Nat) // match x with | (i, ha, hc, hs) => (i : Int) ≤ c.threads ∧ hs.length = i ∧ ((rs.map RowR.l).take i).all (goodT c) = true }) => match x.1 with | (i, ha, hc, hs) => ([(2, .slice ta rs.length tcp), (3, pt b1 0), (8, pt p1 0), (10, pt b2 0), (40, vi c.threads), (41, vi (i : Int))], [.obj b2 (.cells #[pt p1 0, .slice ha hs.length hc] 147 (0, 0)), .sp X, .sp (CoreP p1 (newCore c l)), .obj b1 (.cells #[vi c.regions, vi c.objects, vi c.stripes, vi c.width, vi c.threads, vi c.slots, vi c.regs, vi c.locks, vi c.undo, vi c.escalate, vi c.tickets, vi c.policy] 25 (0, 0)), .sp R, .sp (Sl 40 1 encP ha hc hs), .sp (Many (HandQ p1) hs (newHands c.undo (rs.map RowR.l) i))])) (fun (x : { x : Nat × (Option Addr) × Nat × (List Nat) // match x with | (i, ha, hc, hs) => (i : Int) ≤ c.threads ∧ hs.length = i ∧ ((rs.map RowR.l).take i).all (goodT c) = true }) => match x.1 with | (i, ha, hc, hs) => c.threads.toNat - i) ⟨(0, none, 0, []), by exact ⟨by omega, rfl, rfl⟩⟩ [2, 2, 2, 2, 2, 1, 0] (by kernel_rfl) (by kernel_rfl) (by kernel_rfl) ?_
      rintro ⟨⟨i, ha, hc, hs⟩, hi1⟩
      have hi1 : (i : Int) ≤ c.threads ∧ hs.length = i ∧ ((rs.map RowR.l).take i).all (goodT c) = true := hi1
      obtain ⟨hi1_0, hi1_1, hi1_2⟩ := hi1
      refine g_adv 5 [.c 2002, .c 2003] 1 [(2, .slice ta rs.length tcp), (3, pt b1 0), (8, pt p1 0), (10, pt b2 0), (40, vi c.threads), (41, vi (i : Int)), (42, vb (decide ((i : Int) < c.threads)))] (by kernel_rfl) ?_
      refine g_cond (decide ((i : Int) < c.threads)) (by kernel_rfl) (fun h3 => ?_) (fun h3 => ?_)
      · have h3p : (i : Int) < c.threads := of_decide_eq_true h3
        refine g_adv 20 [.c 128205, .c 64103, .b 2, .c 4007] 2 [(2, .slice ta rs.length tcp), (3, pt b1 0), (8, pt p1 0), (10, pt b2 0), (11, vi (i : Int)), (12, .slice none 0 0), (40, vi c.threads), (41, vi (i : Int)), (47, vb (decide ((i : Int) < (rs.length : Int))))] (by kernel_rfl) ?_
        refine g_cond (decide ((i : Int) < (rs.length : Int))) (by kernel_rfl) (fun h4 => ?_) (fun h4 => ?_)
        · have h4p : (i : Int) < (rs.length : Int) := of_decide_eq_true h4
          refine g_adv 3 [.o 256410 2] 1 [(2, .slice ta rs.length tcp), (3, pt b1 0), (8, pt p1 0), (10, pt b2 0), (11, vi (i : Int)), (40, vi c.threads), (41, vi (i : Int)), (48, .slice ta rs.length tcp), (49, vi (i : Int))] (by kernel_rfl) ?_
          refine g_some 1 rt (by kernel_rfl) (by omega) ?_
          rintro b3 o1 rfl
          refine g_op (by kernel_rfl) (ot_val (pt b3 (o1 + i * 1)) (run_ix b3 o1 rs.length tcp (i : Int) 1 (by kernel_rfl) (by omega) (by omega)) ?_)
          obtain ⟨⟨xa1, xc1, xl1⟩, hx1⟩ : ∃ x, rs[i]? = some x := ⟨_, List.getElem?_eq_getElem (by omega)⟩
          have hq1 := hall (RowR.mk xa1 xc1 xl1) (List.mem_of_getElem? hx1)
          refine g_op (by kernel_rfl) (ot_loadS 1 b3 o1 i 0 (o1 + i * 1) (.slice xa1 xl1.length xc1) rt (by kernel_rfl) (by kernel_rfl) (by rfl) hx1 (by rfl) ?_)
          have hh1 := hq1
          obtain ⟨hcap1, hsm1, raws1, he1, hr1, hall1⟩ := hh1
          try dsimp only at hcap1 hsm1
          have he1 : xl1 = raws1.map RowR.l := he1
          have hlen1 : xl1.length = raws1.length := by rw [he1, List.length_map]
          refine g_adv 10 [.c 512826, .b 3, .c 128207] 2 [(2, .slice (some ⟨b3, o1, none⟩) rs.length tcp), (3, pt b1 0), (8, pt p1 0), (10, pt b2 0), (11, vi (i : Int)), (12, .slice xa1 xl1.length xc1), (40, vi c.threads), (41, vi (i : Int)), (52, .slice xa1 xl1.length xc1), (53, vi (xl1.length : Int)), (54, vi 0)] (by kernel_rfl) ?_
          refine g_loop' (fun (x : { x : Nat // match x with | j => j ≤ xl1.length ∧ goodT c (xl1.take j) = true }) => match x.1 with | j => ([(2, .slice (some ⟨b3, o1, none⟩) rs.length tcp), (3, pt b1 0), (8, pt p1 0), (10, pt b2 0), (11, vi (i : Int)), (12, .slice xa1 xl1.length xc1), (40, vi c.threads), (41, vi (i : Int)), (52, .slice xa1 xl1.length xc1), (53, vi (xl1.length : Int)), (54, vi (j : Int))], [.obj b2 (.cells #[pt p1 0, .slice ha hs.length hc] 147 (0, 0)), .sp X, .sp (CoreP p1 (newCore c l)), .obj b1 (.cells #[vi c.regions, vi c.objects, vi c.stripes, vi c.width, vi c.threads, vi c.slots, vi c.regs, vi c.locks, vi c.undo, vi c.escalate, vi c.tickets, vi c.policy] 25 (0, 0)), .sp R, .sp (Sl 40 1 encP ha hc hs), .sp (Many (HandQ p1) hs (newHands c.undo (rs.map RowR.l) i))])) (fun (x : { x : Nat // match x with | j => j ≤ xl1.length ∧ goodT c (xl1.take j) = true }) => match x.1 with | j => xl1.length - j) ⟨0, by exact ⟨by omega, rfl⟩⟩ [0, 0, 0, 0, 0, 0, 0] (by kernel_rfl) (by kernel_rfl) (by kernel_rfl) ?_
          rintro ⟨j, hi2⟩
          have hi2 : j ≤ xl1.length ∧ goodT c (xl1.take j) = true := hi2
          obtain ⟨hi2_0, hi2_1⟩ := hi2
          refine g_adv 5 [.c 4102610, .c 4102611] 1 [(2, .slice (some ⟨b3, o1, none⟩) rs.length tcp), (3, pt b1 0), (8, pt p1 0), (10, pt b2 0), (11, vi (i : Int)), (12, .slice xa1 xl1.length xc1), (40, vi c.threads), (41, vi (i : Int)), (52, .slice xa1 xl1.length xc1), (53, vi (xl1.length : Int)), (54, vi (j : Int)), (55, vb (decide ((j : Int) < (xl1.length : Int))))] (by kernel_rfl) ?_
          refine g_cond (decide ((j : Int) < (xl1.length : Int))) (by kernel_rfl) (fun h5 => ?_) (fun h5 => ?_)
          · have h5p : (j : Int) < (xl1.length : Int) := of_decide_eq_true h5
            refine g_adv 5 [.o 32820888 0, .c 32820889, .b 4, .c 8205223] 2 [(2, .slice (some ⟨b3, o1, none⟩) rs.length tcp), (3, pt b1 0), (8, pt p1 0), (10, pt b2 0), (11, vi (i : Int)), (12, .slice xa1 xl1.length xc1), (40, vi c.threads), (41, vi (i : Int)), (52, .slice xa1 xl1.length xc1), (53, vi (xl1.length : Int)), (54, vi (j : Int))] (by kernel_rfl) ?_
            refine g_some 1 hr1 (by kernel_rfl) (by omega) ?_
            rintro b4 o2 rfl
            refine g_op (by kernel_rfl) (ot_val (pt b4 (o2 + j * 1)) (run_ix b4 o2 xl1.length xc1 (j : Int) 1 (by kernel_rfl) (by omega) (by omega)) ?_)
            obtain ⟨⟨xa2, xc2, xl2⟩, hx2⟩ : ∃ x, raws1[j]? = some x := ⟨_, List.getElem?_eq_getElem (by omega)⟩
            have hq2 := hall1 (RowR.mk xa2 xc2 xl2) (List.mem_of_getElem? hx2)
            refine g_op (by kernel_rfl) (ot_loadS 1 b4 o2 j 0 (o2 + j * 1) (.slice xa2 xl2.length xc2) hr1 (by kernel_rfl) (by kernel_rfl) (by rfl) hx2 (by rfl) ?_)
            refine g_adv 4 [.o 65641778 0, .c 65641779] 2 [(2, .slice (some ⟨b3, o1, none⟩) rs.length tcp), (3, pt b1 0), (8, pt p1 0), (10, pt b2 0), (11, vi (i : Int)), (12, .slice (some ⟨b4, o2, none⟩) xl1.length xc1), (14, .slice xa2 xl2.length xc2), (40, vi c.threads), (41, vi (i : Int)), (52, .slice (some ⟨b4, o2, none⟩) xl1.length xc1), (53, vi (xl1.length : Int)), (54, vi (j : Int))] (by kernel_rfl) ?_
            refine g_op (by kernel_rfl) (ot_loadA 3 b1 0 [vi c.regions, vi c.objects, vi c.stripes, vi c.width, vi c.threads, vi c.slots, vi c.regs, vi c.locks, vi c.undo, vi c.escalate, vi c.tickets, vi c.policy] (by kernel_rfl) (by kernel_rfl) ?_)
            refine g_adv 1 [.o 65641778 2] 1 [(2, .slice (some ⟨b3, o1, none⟩) rs.length tcp), (3, pt b1 0), (8, pt p1 0), (10, pt b2 0), (11, vi (i : Int)), (12, .slice (some ⟨b4, o2, none⟩) xl1.length xc1), (40, vi c.threads), (41, vi (i : Int)), (52, .slice (some ⟨b4, o2, none⟩) xl1.length xc1), (53, vi (xl1.length : Int)), (54, vi (j : Int)), (58, .agg #[vi c.regions, vi c.objects, vi c.stripes, vi c.width, vi c.threads, vi c.slots, vi c.regs, vi c.locks, vi c.undo, vi c.escalate, vi c.tickets, vi c.policy]), (59, .slice xa2 xl2.length xc2)] (by kernel_rfl) ?_
            refine g_op (by kernel_rfl) (ot_call [1] (c_prog_Check c xa2 xc2 xl2 X (by first | omega | assumption | (simp; done) | (simp; omega))) (by kernel_rfl) (by kernel_rfl) ?_)
            intro _
            refine g_adv 2 [] 1 [(2, .slice (some ⟨b3, o1, none⟩) rs.length tcp), (3, pt b1 0), (8, pt p1 0), (10, pt b2 0), (11, vi (i : Int)), (12, .slice (some ⟨b4, o2, none⟩) xl1.length xc1), (40, vi c.threads), (41, vi (i : Int)), (52, .slice (some ⟨b4, o2, none⟩) xl1.length xc1), (53, vi (xl1.length : Int)), (54, vi (j : Int)), (61, vb (checkP c xl2 != 0))] (by kernel_rfl) ?_
            refine g_cond (checkP c xl2 != 0) (by kernel_rfl) (fun h6 => ?_) (fun h6 => ?_)
            · have h6p : checkP c xl2 ≠ 0 := bne_iff_ne.1 h6
              exact absurd (of_decide_eq_true (all_at (p := fun p => decide (checkP c p = 0)) (show xl1.all _ = true from all_at (p := goodT c) hgood (map_at hx1)) (he1 ▸ map_at hx2))) h6p
            · have h6p : checkP c xl2 = 0 := (by simpa using h6)
              refine g_adv 4 [.o 8205223 1] 3 [(2, .slice (some ⟨b3, o1, none⟩) rs.length tcp), (3, pt b1 0), (8, pt p1 0), (10, pt b2 0), (11, vi (i : Int)), (12, .slice (some ⟨b4, o2, none⟩) xl1.length xc1), (40, vi c.threads), (41, vi (i : Int)), (52, .slice (some ⟨b4, o2, none⟩) xl1.length xc1), (53, vi (xl1.length : Int)), (62, vi (wI ((j : Int) + 1)))] (by kernel_rfl) ?_
              refine g_val 62 (vi (wI ((j : Int) + 1))) (vi ((j + 1 : Nat) : Int)) (wI_eq (by omega) (by omega) (by omega)) (by kernel_rfl) ?_
              refine g_adv 2 [] 1 [(2, .slice (some ⟨b3, o1, none⟩) rs.length tcp), (3, pt b1 0), (8, pt p1 0), (10, pt b2 0), (11, vi (i : Int)), (12, .slice (some ⟨b4, o2, none⟩) xl1.length xc1), (40, vi c.threads), (41, vi (i : Int)), (52, .slice (some ⟨b4, o2, none⟩) xl1.length xc1), (53, vi (xl1.length : Int)), (54, vi ((j + 1 : Nat) : Int))] (by kernel_rfl) ?_
              refine g_round ⟨j + 1, by exact ⟨by omega, all_step hi2_1 (he1 ▸ map_at hx2) (decide_eq_true (by assumption))⟩⟩ [1, 0, 0, 0, 0, 0, 0] (by first | omega | (simp; done) | (simp; omega)) (by kernel_rfl) (by kernel_rfl)
          · have h5p : ¬ ((j : Int) < (xl1.length : Int)) := of_decide_eq_false h5
            obtain rfl : j = xl1.length := by omega
            rw [List.take_length] at hi2_1
            refine g_adv 1 [] 4 [(2, .slice (some ⟨b3, o1, none⟩) rs.length tcp), (3, pt b1 0), (8, pt p1 0), (10, pt b2 0), (11, vi (i : Int)), (12, .slice xa1 xl1.length xc1), (40, vi c.threads), (41, vi (i : Int))] (by kernel_rfl) ?_
            refine d_start (by kernel_rfl) (by kernel_rfl) ?_
            refine d_run1 [(0, pt b2 0), (1, pt b2 0), (2, pt b2 0), (3, pt b2 1), (4, .slice ha hs.length hc), (5, pt p1 0), (6, vi (i : Int)), (7, .slice xa1 xl1.length xc1)] 8 (by kernel_rfl) (.plainN 4 (by kernel_rfl) (.one _ _ (evOK_loadC 0 b2 1 _ (by kernel_rfl) (by kernel_rfl)) (.plainN 3 (by kernel_rfl) .nil))) (by kernel_rfl) (ot_call [1, 1] (c_hand_New p1 (i : Int) xa1 xc1 xl1 X (newCore c l) (by first | assumption | exact rprogs_nil) (by exact hk)) (by kernel_rfl) (by kernel_rfl) ?_)
            intro p2
            refine d_run1 [] 9 (by kernel_rfl) (.done _ _ (by kernel_rfl) (.plainN 4 (by kernel_rfl) (.one _ _ (evOK_loadC 3 b2 1 _ (by kernel_rfl) (by kernel_rfl)) (.plainN 3 (by kernel_rfl) .nil)))) (by kernel_rfl) (ot_lit 40 1 #[pt p2 0] (by kernel_rfl) ?_)
            intro b4
            refine d_lit 0 b4 #[pt p2 0] 40 1 encP (fun _ => rfl) [p2] (by kernel_rfl) (by rfl) ?_
            refine d_run1 [] 10 (by kernel_rfl) (.done _ _ (by kernel_rfl) (.done _ _ (by kernel_rfl) (.plainN 4 (by kernel_rfl) (.one _ _ (evOK_loadC 4 b2 1 _ (by kernel_rfl) (by kernel_rfl)) (.plainN 3 (by kernel_rfl) .nil))))) (by kernel_rfl) (ot_append (T := 40) (sz := 1) (enc := encP) (ad := ha) (cap := hc) (l := hs) (ys := [p2]) (ya := (some ⟨b4, 0, none⟩)) (yc := 1) (Y := (Sl 40 1 encP (some ⟨b4, 0, none⟩) 1 [p2])) 7 0 8 Sl.reads (by kernel_rfl) (by kernel_rfl) (by kernel_rfl) (fun _ => rfl) (by first | omega | (simp; omega) | (simp at *; omega)) (by first | omega | (simp; omega) | (simp at *; omega)) ?_)
            intro a1 c1
            refine d_done [4] (by kernel_rfl) ?_
            refine d_run1 [(11, pt b2 0), (12, pt b2 1)] 13 (by kernel_rfl) (.plainN 2 (by kernel_rfl) (.done _ _ (by kernel_rfl) (.done _ _ (by kernel_rfl) (.done _ _ (by kernel_rfl) (.plainN 4 (by kernel_rfl) (.done _ _ (by kernel_rfl) (.plainN 3 (by kernel_rfl) .nil))))))) (by kernel_rfl) (ot_store 4 b2 1 [.slice a1 ((hs ++ [p2]).length) c1] (by kernel_rfl) (by kernel_rfl) ?_)
            refine d_end [] [(2, .slice (some ⟨b3, o1, none⟩) rs.length tcp), (3, pt b1 0), (8, pt p1 0), (10, pt b2 0), (40, vi c.threads), (41, vi (i : Int))] (by kernel_rfl) (.done _ _ (by kernel_rfl) (.plainN 2 (by kernel_rfl) (.done _ _ (by kernel_rfl) (.done _ _ (by kernel_rfl) (.done _ _ (by kernel_rfl) (.plainN 4 (by kernel_rfl) (.done _ _ (by kernel_rfl) (.plainN 3 (by kernel_rfl) .nil)))))))) (by kernel_rfl) ?_
            refine g_adv 3 [.o 4007 1] 2 [(2, .slice (some ⟨b3, o1, none⟩) rs.length tcp), (3, pt b1 0), (8, pt p1 0), (10, pt b2 0), (40, vi c.threads), (76, vi (wI ((i : Int) + 1)))] (by kernel_rfl) ?_
            refine g_val 76 (vi (wI ((i : Int) + 1))) (vi ((i + 1 : Nat) : Int)) (wI_eq (by omega) (by omega) (by omega)) (by kernel_rfl) ?_
            refine g_adv 2 [] 1 [(2, .slice (some ⟨b3, o1, none⟩) rs.length tcp), (3, pt b1 0), (8, pt p1 0), (10, pt b2 0), (40, vi c.threads), (41, vi ((i + 1 : Nat) : Int))] (by kernel_rfl) ?_
            refine g_snoc (HandQ p1) hs (newHands c.undo (rs.map RowR.l) i) p2 (newHand (i : Int) xl1 (newCore c l).parts.conf.undo) [1, 7] (by kernel_rfl) ?_
            refine g_sp 0 (Many (HandQ p1) (hs ++ [p2]) ((newHands c.undo (rs.map RowR.l) i) ++ [(newHand (i : Int) xl1 (newCore c l).parts.conf.undo)])) (Many (HandQ p1) (hs ++ [p2]) (newHands c.undo (rs.map RowR.l) (i + 1))) (by kernel_rfl) (congrArg (fun z_ => Many (HandQ p1) (hs ++ [p2]) z_) (show (newHands c.undo (rs.map RowR.l) i) ++ [(newHand (i : Int) xl1 (newCore c l).parts.conf.undo)] = (newHands c.undo (rs.map RowR.l) (i + 1)) from by first | exact newHands_step (getD_at (map_at hx1)) | exact newHands_step (getD_out (by simp; omega)))) ?_
            refine g_round ⟨(i + 1, a1, c1, hs ++ [p2]), by first | exact ⟨by omega, by simp; omega, all_step hi1_2 (map_at hx1) hi2_1⟩ | exact ⟨by omega, by simp; omega, by rw [List.take_of_length_le (by simp; omega)]; rw [List.take_of_length_le (by simp; omega)] at hi1_2; exact hi1_2⟩⟩ [4, 2, 2, 2, 2, 2, 0] (by first | omega | (simp; done) | (simp; omega)) (by kernel_rfl) (by kernel_rfl)
        · have h4p : ¬ ((i : Int) < (rs.length : Int)) := of_decide_eq_false h4
          refine g_adv 9 [.c 512826, .b 3, .c 128207] 2 [(2, .slice ta rs.length tcp), (3, pt b1 0), (8, pt p1 0), (10, pt b2 0), (11, vi (i : Int)), (12, .slice none 0 0), (40, vi c.threads), (41, vi (i : Int)), (52, .slice none 0 0), (53, vi 0), (54, vi 0)] (by kernel_rfl) ?_
          refine g_loop' (fun (x : { x : Nat // match x with | j => j = 0 }) => match x.1 with | j => ([(2, .slice ta rs.length tcp), (3, pt b1 0), (8, pt p1 0), (10, pt b2 0), (11, vi (i : Int)), (12, .slice none 0 0), (40, vi c.threads), (41, vi (i : Int)), (52, .slice none 0 0), (53, vi 0), (54, vi (j : Int))], [.obj b2 (.cells #[pt p1 0, .slice ha hs.length hc] 147 (0, 0)), .sp X, .sp (CoreP p1 (newCore c l)), .obj b1 (.cells #[vi c.regions, vi c.objects, vi c.stripes, vi c.width, vi c.threads, vi c.slots, vi c.regs, vi c.locks, vi c.undo, vi c.escalate, vi c.tickets, vi c.policy] 25 (0, 0)), .sp R, .sp (Sl 40 1 encP ha hc hs), .sp (Many (HandQ p1) hs (newHands c.undo (rs.map RowR.l) i))])) (fun (x : { x : Nat // match x with | j => j = 0 }) => match x.1 with | j => 0 - j) ⟨0, by rfl⟩ [0, 0, 0, 0, 0, 0, 0] (by kernel_rfl) (by kernel_rfl) (by kernel_rfl) ?_
          rintro ⟨j, hi2⟩
          have hi2 : j = 0 := hi2
          obtain rfl : j = 0 := by omega
          · refine g_adv 7 [] 3 [(2, .slice ta rs.length tcp), (3, pt b1 0), (8, pt p1 0), (10, pt b2 0), (11, vi (i : Int)), (12, .slice none 0 0), (40, vi c.threads), (41, vi (i : Int))] (by kernel_rfl) ?_
            refine d_start (by kernel_rfl) (by kernel_rfl) ?_
            refine d_run1 [(0, pt b2 0), (1, pt b2 0), (2, pt b2 0), (3, pt b2 1), (4, .slice ha hs.length hc), (5, pt p1 0), (6, vi (i : Int)), (7, .slice none 0 0)] 8 (by kernel_rfl) (.plainN 4 (by kernel_rfl) (.one _ _ (evOK_loadC 0 b2 1 _ (by kernel_rfl) (by kernel_rfl)) (.plainN 3 (by kernel_rfl) .nil))) (by kernel_rfl) (ot_call [1, 1] (c_hand_New p1 (i : Int) none 0 [] X (newCore c l) (by first | assumption | exact rprogs_nil) (by exact hk)) (by kernel_rfl) (by kernel_rfl) ?_)
            intro p2
            refine d_run1 [] 9 (by kernel_rfl) (.done _ _ (by kernel_rfl) (.plainN 4 (by kernel_rfl) (.one _ _ (evOK_loadC 3 b2 1 _ (by kernel_rfl) (by kernel_rfl)) (.plainN 3 (by kernel_rfl) .nil)))) (by kernel_rfl) (ot_lit 40 1 #[pt p2 0] (by kernel_rfl) ?_)
            intro b3
            refine d_lit 0 b3 #[pt p2 0] 40 1 encP (fun _ => rfl) [p2] (by kernel_rfl) (by rfl) ?_
            refine d_run1 [] 10 (by kernel_rfl) (.done _ _ (by kernel_rfl) (.done _ _ (by kernel_rfl) (.plainN 4 (by kernel_rfl) (.one _ _ (evOK_loadC 4 b2 1 _ (by kernel_rfl) (by kernel_rfl)) (.plainN 3 (by kernel_rfl) .nil))))) (by kernel_rfl) (ot_append (T := 40) (sz := 1) (enc := encP) (ad := ha) (cap := hc) (l := hs) (ys := [p2]) (ya := (some ⟨b3, 0, none⟩)) (yc := 1) (Y := (Sl 40 1 encP (some ⟨b3, 0, none⟩) 1 [p2])) 7 0 8 Sl.reads (by kernel_rfl) (by kernel_rfl) (by kernel_rfl) (fun _ => rfl) (by first | omega | (simp; omega) | (simp at *; omega)) (by first | omega | (simp; omega) | (simp at *; omega)) ?_)
            intro a1 c1
            refine d_done [4] (by kernel_rfl) ?_
            refine d_run1 [(11, pt b2 0), (12, pt b2 1)] 13 (by kernel_rfl) (.plainN 2 (by kernel_rfl) (.done _ _ (by kernel_rfl) (.done _ _ (by kernel_rfl) (.done _ _ (by kernel_rfl) (.plainN 4 (by kernel_rfl) (.done _ _ (by kernel_rfl) (.plainN 3 (by kernel_rfl) .nil))))))) (by kernel_rfl) (ot_store 4 b2 1 [.slice a1 ((hs ++ [p2]).length) c1] (by kernel_rfl) (by kernel_rfl) ?_)
            refine d_end [] [(2, .slice ta rs.length tcp), (3, pt b1 0), (8, pt p1 0), (10, pt b2 0), (40, vi c.threads), (41, vi (i : Int))] (by kernel_rfl) (.done _ _ (by kernel_rfl) (.plainN 2 (by kernel_rfl) (.done _ _ (by kernel_rfl) (.done _ _ (by kernel_rfl) (.done _ _ (by kernel_rfl) (.plainN 4 (by kernel_rfl) (.done _ _ (by kernel_rfl) (.plainN 3 (by kernel_rfl) .nil)))))))) (by kernel_rfl) ?_
            refine g_adv 3 [.o 4007 1] 2 [(2, .slice ta rs.length tcp), (3, pt b1 0), (8, pt p1 0), (10, pt b2 0), (40, vi c.threads), (76, vi (wI ((i : Int) + 1)))] (by kernel_rfl) ?_
            refine g_val 76 (vi (wI ((i : Int) + 1))) (vi ((i + 1 : Nat) : Int)) (wI_eq (by omega) (by omega) (by omega)) (by kernel_rfl) ?_
            refine g_adv 2 [] 1 [(2, .slice ta rs.length tcp), (3, pt b1 0), (8, pt p1 0), (10, pt b2 0), (40, vi c.threads), (41, vi ((i + 1 : Nat) : Int))] (by kernel_rfl) ?_
            refine g_snoc (HandQ p1) hs (newHands c.undo (rs.map RowR.l) i) p2 (newHand (i : Int) [] (newCore c l).parts.conf.undo) [1, 7] (by kernel_rfl) ?_
            refine g_sp 0 (Many (HandQ p1) (hs ++ [p2]) ((newHands c.undo (rs.map RowR.l) i) ++ [(newHand (i : Int) [] (newCore c l).parts.conf.undo)])) (Many (HandQ p1) (hs ++ [p2]) (newHands c.undo (rs.map RowR.l) (i + 1))) (by kernel_rfl) (congrArg (fun z_ => Many (HandQ p1) (hs ++ [p2]) z_) (show (newHands c.undo (rs.map RowR.l) i) ++ [(newHand (i : Int) [] (newCore c l).parts.conf.undo)] = (newHands c.undo (rs.map RowR.l) (i + 1)) from by first | exact newHands_step (getD_at (map_at hx1)) | exact newHands_step (getD_out (by simp; omega)))) ?_
            refine g_round ⟨(i + 1, a1, c1, hs ++ [p2]), by first | exact ⟨by omega, by simp; omega, all_step hi1_2 (map_at hx1) hi2_1⟩ | exact ⟨by omega, by simp; omega, by rw [List.take_of_length_le (by simp; omega)]; rw [List.take_of_length_le (by simp; omega)] at hi1_2; exact hi1_2⟩⟩ [4, 2, 2, 2, 2, 2, 0] (by first | omega | (simp; done) | (simp; omega)) (by kernel_rfl) (by kernel_rfl)
      · have h3p : ¬ ((i : Int) < c.threads) := of_decide_eq_false h3
        obtain rfl : i = c.threads.toNat := by omega
        refine g_adv 8 [] 5 [(6, pt b2 0), (7, vi 0)] (by kernel_rfl) ?_
        refine g_close (MachPF b2 (newMach c l (rs.map RowR.l))) (p1, ha, hc, hs) [0, 1, 3, 3] (by kernel_rfl) ?_
        refine g_post b2 [0, 0, 1] [pt b2 0, vi 0] (.tmp (by kernel_rfl) (.tmp (by kernel_rfl) .nil)) (rfl) (by kernel_rfl)

end Go.Proofs
