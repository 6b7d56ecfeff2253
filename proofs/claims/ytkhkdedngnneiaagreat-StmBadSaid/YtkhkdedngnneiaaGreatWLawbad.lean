/- The walks of the layer lawbad: printed by a program of this repo (wip/gen). -/
import Derived.Test.YtkhkdedngnneiaaGreatWRef1
import Derived.Test.YtkhkdedngnneiaaGreatMLawbad
import Derived.Test.YtkhkdedngnneiaaGreatProg
namespace Go.Proofs
open Go Go.Sl Go.Lk
set_option maxRecDepth 20000
set_option linter.unusedVariables false

theorem c_Hand_nil (p : Nat) (m : Mach) (n : Int) (hn : n < 0 ∨ n ≥ m.hands.length) : Ct Tryz.prog 86 [pt p 0, vi n] [.sp (MachP p m)] (fun _ : Unit => .pointer none) (fun _ => [.sp (MachP p m)]) := by
  refine ct_intro Tryz.f86 23 Tryz.func86 rfl rfl rfl (fun E R => ?_)
  refine g_adv 10 [.o 12 3, .c 13, .c 7] 1 [(0, pt p 0), (1, vi n), (7, vb (decide (n < 0)))] (by kernel_rfl) ?_
  refine g_bool 7 (decide (n < 0)) (by kernel_rfl) (fun h1 => ?_) (fun h1 => ?_)
  · have h1p : n < 0 := of_decide_eq_true h1
    refine g_adv 15 [] 3 [(4, .pointer none)] (by kernel_rfl) ?_
    refine g_post () [0, 0] [.pointer none] (.tmp (by kernel_rfl) .nil) (rfl) (by kernel_rfl)
  · have h1p : ¬ (n < 0) := of_decide_eq_false h1
    refine g_adv 4 [.o 12 7] 1 [(0, pt p 0), (1, vi n), (7, vb false), (8, vi n), (11, pt p 1)] (by kernel_rfl) ?_
    refine g_open 0 (MachPF p m) (by kernel_rfl) ?_
    rintro ⟨kb1, a1, cp1, hs1⟩
    refine g_manyLen (Q := (HandQ kb1)) (ps := hs1) (xs := m.hands) 3 (by kernel_rfl) (fun hml1 => ?_)
    refine g_op (by kernel_rfl) (ot_load 0 p 1 (.slice a1 hs1.length cp1) (by kernel_rfl) (by kernel_rfl) ?_)
    refine g_adv 4 [] 1 [(0, pt p 0), (1, vi n), (15, vb (decide (n ≥ (hs1.length : Int))))] (by kernel_rfl) ?_
    refine g_cond (decide (n ≥ (hs1.length : Int))) (by kernel_rfl) (fun h2 => ?_) (fun h2 => ?_)
    · have h2p : n ≥ (hs1.length : Int) := of_decide_eq_true h2
      refine g_adv 5 [] 2 [(4, .pointer none)] (by kernel_rfl) ?_
      refine g_close (MachPF p m) (kb1, a1, cp1, hs1) [0, 0, 0, 0] (by kernel_rfl) ?_
      refine g_post () [0, 0] [.pointer none] (.tmp (by kernel_rfl) .nil) (rfl) (by kernel_rfl)
    · have h2p : ¬ (n ≥ (hs1.length : Int)) := of_decide_eq_false h2
      exfalso; omega

theorem c_Hand_some (p : Nat) (m : Mach) (n : Int) (hn : 0 ≤ n ∧ n < m.hands.length) : Ct Tryz.prog 86 [pt p 0, vi n] [.sp (MachP p m)] (fun x : Nat => match x with | x => pt x 0) (fun x => match x with | x => [.sp (MachP p m)]) := by
  refine ct_intro Tryz.f86 23 Tryz.func86 rfl rfl rfl (fun E R => ?_)
  refine g_adv 10 [.o 12 3, .c 13, .c 7] 1 [(0, pt p 0), (1, vi n), (7, vb (decide (n < 0)))] (by kernel_rfl) ?_
  refine g_bool 7 (decide (n < 0)) (by kernel_rfl) (fun h1 => ?_) (fun h1 => ?_)
  · have h1p : n < 0 := of_decide_eq_true h1
    exfalso; omega
  · have h1p : ¬ (n < 0) := of_decide_eq_false h1
    refine g_adv 4 [.o 12 7] 1 [(0, pt p 0), (1, vi n), (7, vb false), (8, vi n), (11, pt p 1)] (by kernel_rfl) ?_
    refine g_open 0 (MachPF p m) (by kernel_rfl) ?_
    rintro ⟨kb1, a1, cp1, hs1⟩
    refine g_manyLen (Q := (HandQ kb1)) (ps := hs1) (xs := m.hands) 3 (by kernel_rfl) (fun hml1 => ?_)
    refine g_op (by kernel_rfl) (ot_load 0 p 1 (.slice a1 hs1.length cp1) (by kernel_rfl) (by kernel_rfl) ?_)
    refine g_adv 4 [] 1 [(0, pt p 0), (1, vi n), (15, vb (decide (n ≥ (hs1.length : Int))))] (by kernel_rfl) ?_
    refine g_cond (decide (n ≥ (hs1.length : Int))) (by kernel_rfl) (fun h2 => ?_) (fun h2 => ?_)
    · have h2p : n ≥ (hs1.length : Int) := of_decide_eq_true h2
      exfalso; omega
    · have h2p : ¬ (n ≥ (hs1.length : Int)) := of_decide_eq_false h2
      refine g_adv 6 [.o 14 3, .c 15] 2 [(1, vi n), (18, pt p 1)] (by kernel_rfl) ?_
      refine g_op (by kernel_rfl) (ot_load 0 p 1 (.slice a1 hs1.length cp1) (by kernel_rfl) (by kernel_rfl) ?_)
      refine g_adv 1 [.o 14 5] 1 [(19, .slice a1 hs1.length cp1), (20, vi n)] (by kernel_rfl) ?_
      refine g_some 2 (Sl.reads (T := 40) (sz := 1) (enc := encP) (ad := a1) (cap := cp1) (l := hs1)) (by kernel_rfl) (by omega) ?_
      rintro b1 o1 rfl
      refine g_op (by kernel_rfl) (ot_val (pt b1 (o1 + n.toNat * 1)) (run_ix b1 o1 hs1.length cp1 n 1 (by kernel_rfl) (by omega) (by omega)) ?_)
      obtain ⟨x1, hx1⟩ : ∃ x, hs1[n.toNat]? = some x := ⟨_, List.getElem?_eq_getElem (by omega)⟩
      refine g_op (by kernel_rfl) (ot_loadS 2 b1 o1 n.toNat 0 (o1 + n.toNat * 1) (pt x1 0) (Sl.reads (T := 40) (sz := 1) (enc := encP) (ad := (some ⟨b1, o1, none⟩)) (cap := cp1) (l := hs1)) (by kernel_rfl) (by kernel_rfl) (by rfl) hx1 (by rfl) ?_)
      refine g_adv 3 [] 2 [(4, pt x1 0)] (by kernel_rfl) ?_
      refine g_close (MachPF p m) (kb1, (some ⟨b1, o1, none⟩), cp1, hs1) [0, 0, 0, 0] (by kernel_rfl) ?_
      refine g_post x1 [0, 0] [pt x1 0] (.tmp (by kernel_rfl) .nil) (rfl) (by kernel_rfl)

theorem c_ltklaw19_first  : Ct Tryz.prog 38 [] [] (fun _ : Unit => vb true) (fun _ => []) := by
  refine ct_intro Tryz.f38 63 Tryz.func38 rfl rfl rfl (fun E R => ?_)
  refine g_adv 7 [.o 6 1, .c 7] 1 [(5, .agg #[vi 1, vi 1, vi 1, vi 1, vi 2, vi 0, vi 1, vi 9, vi 1, vi 0, vi 9, vi 0])] (by kernel_rfl) ?_
  refine g_op (by kernel_rfl) (ot_new #[vi 0, vi 0, vi 0, vi 0, vi 0, vi 0, vi 0, vi 0, vi 0, vi 0, vi 0, vi 0] 25 (by kernel_rfl) ?_)
  intro b1
  refine g_op (by kernel_rfl) (ot_store 0 b1 0 [vi 1, vi 1, vi 1, vi 1, vi 2, vi 0, vi 1, vi 9, vi 1, vi 0, vi 9, vi 0] (by kernel_rfl) (by kernel_rfl) ?_)
  refine g_adv 3 [.o 14 0, .c 15] 2 [(1, pt b1 0)] (by kernel_rfl) ?_
  refine g_op (by kernel_rfl) (ot_loadA 0 b1 0 [vi 1, vi 1, vi 1, vi 1, vi 2, vi 0, vi 1, vi 9, vi 1, vi 0, vi 9, vi 0] (by kernel_rfl) (by kernel_rfl) ?_)
  refine g_op (by kernel_rfl) (ot_lit 3 1 #[vi 0] (by kernel_rfl) ?_)
  intro b2
  refine g_lit 0 b2 #[vi 0] 3 1 encI (fun _ => rfl) [0] (by kernel_rfl) (by rfl) ?_
  refine g_op (by kernel_rfl) (ot_call [0] (c_stm_New (Conf.mk 1 1 1 1 2 0 1 9 1 0 9 0) (some ⟨b2, 0, none⟩) 1 [0] none 0 [] (Sl 3 1 encI (some ⟨b2, 0, none⟩) 1 [0]) (Sl.reads (T := 3) (sz := 1) (enc := encI) (ad := (some ⟨b2, 0, none⟩)) (cap := 1) (l := [0])) (rows_nil (fun _ => rfl)) (by exact conf0_ok) (by exact words0) (by simp) (by decide) (by rfl) (by intro r hr; simp at hr) (by rfl)) (by kernel_rfl) (by kernel_rfl) ?_)
  intro p1
  refine g_sp 0 (MachP p1 (newMach (Conf.mk 1 1 1 1 2 0 1 9 1 0 9 0) [0] ([].map RowR.l))) (MachP p1 mach0) (by kernel_rfl) (congrArg (fun z_ => MachP p1 z_) (show (newMach (Conf.mk 1 1 1 1 2 0 1 9 1 0 9 0) [0] ([].map RowR.l)) = mach0 from by rfl)) ?_
  refine g_adv 17 [.o 60 8, .c 61, .c 31] 2 [(2, pt p1 0), (18, vb false), (19, pt p1 0)] (by kernel_rfl) ?_
  refine g_op (by kernel_rfl) (ot_call [0] (c_stm_Machine_Over p1 mach0 (by first | (rw [mach1_len]; decide) | decide)) (by kernel_rfl) (by kernel_rfl) ?_)
  intro _
  refine g_adv 2 [.o 60 11] 1 [(2, pt p1 0), (22, vb (every mach0 [6]))] (by kernel_rfl) ?_
  refine g_bool 22 (every mach0 [6]) (by kernel_rfl) (fun h1 => ?_) (fun h1 => ?_)
  · have h1p : every mach0 [6] = true := h1
    exact absurd h1 (by rw [mach0_over]; decide)
  · have h1p : every mach0 [6] = false := h1
    refine g_adv 1 [.o 60 12] 1 [(2, pt p1 0), (22, vb false), (23, pt p1 0)] (by kernel_rfl) ?_
    refine g_op (by kernel_rfl) (ot_call [0] (c_stm_Machine_Quiet p1 mach0 (by decide)) (by kernel_rfl) (by kernel_rfl) ?_)
    intro _
    refine g_adv 3 [] 1 [(2, pt p1 0), (26, vb (!(every mach0 [0, 5, 6])))] (by kernel_rfl) ?_
    refine g_cond (!(every mach0 [0, 5, 6])) (by kernel_rfl) (fun h2 => ?_) (fun h2 => ?_)
    · have h2p : every mach0 [0, 5, 6] = false := (show (every mach0 [0, 5, 6]) = false by simpa using h2)
      exact absurd h2 (by rw [mach0_quiet]; decide)
    · have h2p : every mach0 [0, 5, 6] = true := (show (every mach0 [0, 5, 6]) = true by simpa using h2)
      refine g_adv 4 [.o 62 1, .c 63] 2 [(2, pt p1 0), (27, pt p1 0)] (by kernel_rfl) ?_
      refine g_op (by kernel_rfl) (ot_lit 3 5 #[vi 0, vi 1, vi 0, vi 5, vi (-1)] (by kernel_rfl) ?_)
      intro b3
      refine g_lit 0 b3 #[vi 0, vi 1, vi 0, vi 5, vi (-1)] 3 1 encI (fun _ => rfl) [0, 1, 0, 5, (-1)] (by kernel_rfl) (by rfl) ?_
      refine g_op (by kernel_rfl) (ot_call [1, 0] (c_Run_easy p1 mach0 (some ⟨b3, 0, none⟩) 5 [0, 1, 0, 5, (-1)] (Sl 3 1 encI (some ⟨b3, 0, none⟩) 5 [0, 1, 0, 5, (-1)]) (Sl.reads (T := 3) (sz := 1) (enc := encI) (ad := (some ⟨b3, 0, none⟩)) (cap := 5) (l := [0, 1, 0, 5, (-1)])) (by exact mach0_easy) (by decide) (by decide) (by decide) (by decide) (by decide)) (by kernel_rfl) (by kernel_rfl) ?_)
      intro _
      refine g_sp 0 (MachP p1 ((runs0 mach0 [0, 1, 0, 5, (-1)]).1)) (MachP p1 mach1) (by kernel_rfl) (congrArg (fun z_ => MachP p1 z_) (show (runs0 mach0 [0, 1, 0, 5, (-1)]).1 = mach1 from by rfl)) ?_
      refine g_val 29 (vi ((runs0 mach0 [0, 1, 0, 5, (-1)]).2)) (vi 2) (by rw [mach1_two]) (by kernel_rfl) ?_
      refine g_adv 8 [.o 126 4, .c 127] 2 [(2, pt p1 0), (32, vb true), (33, pt p1 0)] (by kernel_rfl) ?_
      refine g_op (by kernel_rfl) (ot_call [0] (c_stm_Machine_Over p1 mach1 (by first | (rw [mach1_len]; decide) | decide)) (by kernel_rfl) (by kernel_rfl) ?_)
      intro _
      refine g_adv 2 [.o 126 7] 1 [(2, pt p1 0), (36, vb (every mach1 [6]))] (by kernel_rfl) ?_
      refine g_bool 36 (every mach1 [6]) (by kernel_rfl) (fun h3 => ?_) (fun h3 => ?_)
      · have h3p : every mach1 [6] = true := h3
        refine g_adv 1 [.o 126 8] 1 [(2, pt p1 0), (36, vb true), (37, pt p1 0)] (by kernel_rfl) ?_
        refine g_op (by kernel_rfl) (ot_call [0] (c_Hand_nil p1 mach1 2 (by rw [mach1_len]; decide)) (by kernel_rfl) (by kernel_rfl) ?_)
        intro _
        refine g_adv 4 [.o 126 13] 1 [(2, pt p1 0), (41, vb true), (42, pt p1 0)] (by kernel_rfl) ?_
        refine g_op (by kernel_rfl) (ot_call [0] (c_Hand_some p1 mach1 0 (by rw [mach1_len]; decide)) (by kernel_rfl) (by kernel_rfl) ?_)
        intro x1
        refine g_adv 6 [.o 126 20] 1 [(2, pt p1 0), (46, vb true), (49, pt p1 0)] (by kernel_rfl) ?_
        refine g_open 0 (MachPF p1 mach1) (by kernel_rfl) ?_
        rintro ⟨kb1, a1, cp1, hs1⟩
        refine g_manyLen (Q := (HandQ kb1)) (ps := hs1) (xs := mach1.hands) 3 (by kernel_rfl) (fun hml1 => ?_)
        refine g_op (by kernel_rfl) (ot_loadA 0 p1 0 [pt kb1 0] (by kernel_rfl) (by kernel_rfl) ?_)
        refine g_op (by kernel_rfl) (ot_call [] (c_stm_shared_Core kb1) (by kernel_rfl) (by kernel_rfl) ?_)
        intro _
        refine g_adv 6 [.o 126 28] 1 [(54, vb true), (57, pt p1 0)] (by kernel_rfl) ?_
        refine g_op (by kernel_rfl) (ot_loadA 0 p1 0 [pt kb1 0] (by kernel_rfl) (by kernel_rfl) ?_)
        refine g_op (by kernel_rfl) (ot_call [] (c_stm_shared_Core kb1) (by kernel_rfl) (by kernel_rfl) ?_)
        intro _
        refine g_op (by kernel_rfl) (ot_call [1] (c_core_Core_Now kb1 mach1.core) (by kernel_rfl) (by kernel_rfl) ?_)
        intro _
        refine g_val 60 (vi mach1.core.now) (vi 5) (by rw [mach1_now]) (by kernel_rfl) ?_
        refine g_adv 5 [] 2 [(0, vb true)] (by kernel_rfl) ?_
        refine g_post () [7] [vb true] (.tmp (by kernel_rfl) .nil) (rfl) (by kernel_rfl)
      · have h3p : every mach1 [6] = false := h3
        exact absurd h3 (by rw [mach1_over]; decide)

theorem c_ltklaw19_StmBad (c : Conf) (a : Option Addr) (cp : Nat) (l : List Int) (how : Int) (X : SP) (rl : Reads X 1 encI a l) : Ct Tryz.prog 7 [.agg #[vi c.regions, vi c.objects, vi c.stripes, vi c.width, vi c.threads, vi c.slots, vi c.regs, vi c.locks, vi c.undo, vi c.escalate, vi c.tickets, vi c.policy], .slice a l.length cp, vi how] [.sp X] (fun _ : Unit => vb true) (fun _ => [.sp X]) := by
  refine ct_intro Tryz.f7 93 Tryz.func7 rfl rfl rfl (fun E R => ?_)
  refine g_adv 2 [.o 2 0, .c 3] 1 [(0, .agg #[vi c.regions, vi c.objects, vi c.stripes, vi c.width, vi c.threads, vi c.slots, vi c.regs, vi c.locks, vi c.undo, vi c.escalate, vi c.tickets, vi c.policy]), (1, .slice a l.length cp), (2, vi how)] (by kernel_rfl) ?_
  refine g_op (by kernel_rfl) (ot_new #[vi c.regions, vi c.objects, vi c.stripes, vi c.width, vi c.threads, vi c.slots, vi c.regs, vi c.locks, vi c.undo, vi c.escalate, vi c.tickets, vi c.policy] 25 (by kernel_rfl) ?_)
  intro b1
  refine g_adv 5 [.o 12 0, .c 13, .c 7] 2 [(1, .slice a l.length cp), (2, vi how), (3, pt b1 0)] (by kernel_rfl) ?_
  refine g_op (by kernel_rfl) (ot_call [] (c_ltklaw19_first) (by kernel_rfl) (by kernel_rfl) ?_)
  intro _
  refine g_adv 7 [.o 28 0, .c 29, .c 15] 3 [(1, .slice a l.length cp), (2, vi how), (3, pt b1 0)] (by kernel_rfl) ?_
  refine g_op (by kernel_rfl) (ot_loadA 0 b1 0 [vi c.regions, vi c.objects, vi c.stripes, vi c.width, vi c.threads, vi c.slots, vi c.regs, vi c.locks, vi c.undo, vi c.escalate, vi c.tickets, vi c.policy] (by kernel_rfl) (by kernel_rfl) ?_)
  refine g_op (by kernel_rfl) (ot_call [] (c_ltkref1_Check c) (by kernel_rfl) (by kernel_rfl) ?_)
  intro _
  refine g_adv 2 [.o 28 4] 1 [(1, .slice a l.length cp), (2, vi how), (3, pt b1 0), (20, vb (check c != 0))] (by kernel_rfl) ?_
  refine g_bool 20 (check c != 0) (by kernel_rfl) (fun h1 => ?_) (fun h1 => ?_)
  · have h1p : check c ≠ 0 := bne_iff_ne.1 h1
    refine g_adv 10 [.o 116 0, .c 117] 2 [] (by kernel_rfl) ?_
    refine g_op (by kernel_rfl) (ot_call [] (c_ltklaw19_first) (by kernel_rfl) (by kernel_rfl) ?_)
    intro _
    refine g_adv 3 [] 3 [(6, vb true)] (by kernel_rfl) ?_
    refine g_post () [1, 1] [vb true] (.tmp (by kernel_rfl) .nil) (rfl) (by kernel_rfl)
  · have h1p : check c = 0 := (by simpa using h1)
    have hk := check_ok h1p; have hz := hk.sizes; have hth := hk.threads
    refine g_adv 2 [.o 28 6] 1 [(1, .slice a l.length cp), (2, vi how), (3, pt b1 0), (20, vb false), (22, vi (l.length : Int))] (by kernel_rfl) ?_
    refine g_op (by kernel_rfl) (ot_loadA 0 b1 0 [vi c.regions, vi c.objects, vi c.stripes, vi c.width, vi c.threads, vi c.slots, vi c.regs, vi c.locks, vi c.undo, vi c.escalate, vi c.tickets, vi c.policy] (by kernel_rfl) (by kernel_rfl) ?_)
    refine g_op (by kernel_rfl) (ot_call [] (c_ltkref1_Words c) (by kernel_rfl) (by kernel_rfl) ?_)
    intro _
    refine g_adv 3 [] 1 [(1, .slice a l.length cp), (2, vi how), (3, pt b1 0), (26, vb ((l.length : Int) != words c))] (by kernel_rfl) ?_
    refine g_cond ((l.length : Int) != words c) (by kernel_rfl) (fun h2 => ?_) (fun h2 => ?_)
    · have h2p : (l.length : Int) ≠ words c := bne_iff_ne.1 h2
      refine g_adv 2 [.o 116 0, .c 117] 1 [] (by kernel_rfl) ?_
      refine g_op (by kernel_rfl) (ot_call [] (c_ltklaw19_first) (by kernel_rfl) (by kernel_rfl) ?_)
      intro _
      refine g_adv 3 [] 3 [(6, vb true)] (by kernel_rfl) ?_
      refine g_post () [1, 1] [vb true] (.tmp (by kernel_rfl) .nil) (rfl) (by kernel_rfl)
    · have h2p : (l.length : Int) = words c := (by simpa using h2)
      have hw : (l.length : Int) = words c := h2p
      refine g_adv 4 [.o 30 1, .c 31] 2 [(1, .slice a l.length cp), (2, vi how), (3, pt b1 0), (28, .agg #[vi 3, vi 0, vi 0, vi 0, .slice none 0 0])] (by kernel_rfl) ?_
      refine g_op (by kernel_rfl) (ot_lit 38 1 #[vi 3, vi 0, vi 0, vi 0, .slice none 0 0] (by kernel_rfl) ?_)
      intro b2
      refine g_val 29 (.slice (some ⟨b2, 0, none⟩) 1 1) (.slice (some ⟨b2, 0, none⟩) (([constI]).length) 1) (by rfl) (by kernel_rfl) ?_
      refine g_op (by kernel_rfl) (ot_lit 39 1 #[.slice (some ⟨b2, 0, none⟩) (([constI]).length) 1] (by kernel_rfl) ?_)
      intro b3
      refine g_lit 0 b3 #[.slice (some ⟨b2, 0, none⟩) (([constI]).length) 1] 39 1 encR1 (fun _ => rfl) [(RowR.mk (some ⟨b2, 0, none⟩) 1 [constI])] (by kernel_rfl) (by rfl) ?_
      refine g_val 30 (.slice (some ⟨b3, 0, none⟩) 1 1) (.slice (some ⟨b3, 0, none⟩) (([[constI]]).length) 1) (by rfl) (by kernel_rfl) ?_
      refine g_adv 4 [.o 62 0, .c 63] 2 [(1, .slice a l.length cp), (2, vi how), (3, pt b1 0), (7, .slice (some ⟨b3, 0, none⟩) (([[constI]]).length) 1)] (by kernel_rfl) ?_
      refine g_op (by kernel_rfl) (ot_makeZ 0 0 encR2 (RowR.mk none 0 []) 79 1 24 #[.slice none 0 0] (by kernel_rfl) (by omega) (fun _ => rfl) rfl (by omega) (by omega) ?_)
      intro b4
      refine g_adv 18 [.c 2037, .b 0, .c 255] 2 [(1, .slice a l.length cp), (3, pt b1 0), (7, .slice (some ⟨b3, 0, none⟩) (([[constI]]).length) 1), (8, .slice (some ⟨b4, 0, none⟩) 0 0), (9, vi 1), (33, vi (iand how 3)), (34, vb (iand how 3 == 0))] (by kernel_rfl) ?_
      refine g_cond (iand how 3 == 0) (by kernel_rfl) (fun h3 => ?_) (fun h3 => ?_)
      · have h3p : iand how 3 = 0 := eq_of_beq h3
        refine g_adv 2 [.o 4074 1] 1 [(3, pt b1 0), (8, .slice (some ⟨b4, 0, none⟩) 0 0), (9, vi 1), (36, .slice a l.length cp)] (by kernel_rfl) ?_
        refine g_op (by kernel_rfl) (ot_call [4] (c_ltkref_Copy a cp l X rl (by first | omega | assumption | (simp; done) | (simp; omega))) (by kernel_rfl) (by kernel_rfl) ?_)
        rintro ⟨a1, c1⟩
        refine g_op (by kernel_rfl) (ot_lit 3 1 #[vi 0] (by kernel_rfl) ?_)
        intro b5
        refine g_lit 0 b5 #[vi 0] 3 1 encI (fun _ => rfl) [0] (by kernel_rfl) (by rfl) ?_
        refine g_op (by kernel_rfl) (ot_append (T := 3) (sz := 1) (enc := encI) (ad := a1) (cap := c1) (l := l) (ys := [0]) (ya := (some ⟨b5, 0, none⟩)) (yc := 1) (Y := (Sl 3 1 encI (some ⟨b5, 0, none⟩) 1 [0])) 1 0 8 (Sl.reads (T := 3) (sz := 1) (enc := encI) (ad := (some ⟨b5, 0, none⟩)) (cap := 1) (l := [0])) (by kernel_rfl) (by kernel_rfl) (by kernel_rfl) (fun _ => rfl) (by first | omega | (simp; done) | (simp; omega) | (simp at *; omega)) (by first | omega | (simp; done) | (simp; omega) | (simp at *; omega)) ?_)
        intro a2 c2
        refine g_adv 5 [.o 510 0, .c 511] 3 [(1, .slice a2 ((l ++ [0]).length) c2), (3, pt b1 0), (8, .slice (some ⟨b4, 0, none⟩) 0 0), (9, vi 1)] (by kernel_rfl) ?_
        refine g_op (by kernel_rfl) (ot_loadA 6 b1 0 [vi c.regions, vi c.objects, vi c.stripes, vi c.width, vi c.threads, vi c.slots, vi c.regs, vi c.locks, vi c.undo, vi c.escalate, vi c.tickets, vi c.policy] (by kernel_rfl) (by kernel_rfl) ?_)
        refine g_adv 2 [.o 510 3] 1 [(9, vi 1), (77, .agg #[vi c.regions, vi c.objects, vi c.stripes, vi c.width, vi c.threads, vi c.slots, vi c.regs, vi c.locks, vi c.undo, vi c.escalate, vi c.tickets, vi c.policy]), (78, .slice a2 ((l ++ [0]).length) c2), (79, .slice (some ⟨b4, 0, none⟩) 0 0)] (by kernel_rfl) ?_
        refine g_op (by kernel_rfl) (ot_call [1] (c_stm_New_core c a2 c2 (l ++ [0]) (some ⟨b4, 0, none⟩) 0 [] (Sl 3 1 encI a2 c2 (l ++ [0])) (Sl.reads (T := 3) (sz := 1) (enc := encI) (ad := a2) (cap := c2) (l := (l ++ [0]))) (rows_nil (fun _ => rfl)) (by rintro ⟨_, hq⟩; rw [List.length_append] at hq; simp at hq; omega)) (by kernel_rfl) (by kernel_rfl) ?_)
        intro _
        refine g_adv 8 [.o 1022 0, .c 1023] 2 [(9, vi 1), (13, .pointer none), (14, vi 1)] (by kernel_rfl) ?_
        refine g_op (by kernel_rfl) (ot_call [] (c_ltklaw19_first) (by kernel_rfl) (by kernel_rfl) ?_)
        intro _
        refine g_adv 12 [] 2 [(6, vb true)] (by kernel_rfl) ?_
        refine g_post () [2, 6] [vb true] (.tmp (by kernel_rfl) .nil) (rfl) (by kernel_rfl)
      · have h3p : iand how 3 ≠ 0 := ne_of_beq_false h3
        refine g_adv 5 [.c 8151] 1 [(1, .slice a l.length cp), (3, pt b1 0), (7, .slice (some ⟨b3, 0, none⟩) (([[constI]]).length) 1), (8, .slice (some ⟨b4, 0, none⟩) 0 0), (9, vi 1), (33, vi (iand how 3)), (40, vb (iand how 3 == 1))] (by kernel_rfl) ?_
        refine g_cond (iand how 3 == 1) (by kernel_rfl) (fun h4 => ?_) (fun h4 => ?_)
        · have h4p : iand how 3 = 1 := eq_of_beq h4
          refine g_adv 5 [.c 65210, .b 1] 1 [(1, .slice a l.length cp), (3, pt b1 0), (7, .slice (some ⟨b3, 0, none⟩) (([[constI]]).length) 1), (8, .slice (some ⟨b4, 0, none⟩) 0 0), (9, vi 1), (10, vi 0)] (by kernel_rfl) ?_
          refine g_loop' (fun (x_ : { x_ : Nat × (Option Addr) × Nat × (List (RowR (List Instr))) // match x_ with | (i, ta, tc, q) => (i : Int) ≤ c.threads + 1 ∧ q.length = i }) => match x_.1 with | (i, ta, tc, q) => ([(1, .slice a l.length cp), (3, pt b1 0), (7, .slice (some ⟨b3, 0, none⟩) (([[constI]]).length) 1), (8, .slice ta q.length tc), (9, vi 1), (10, vi (i : Int))], [.sp (Sl 79 1 encR2 ta tc q), .sp (Sl 39 1 encR1 (some ⟨b3, 0, none⟩) 1 [(RowR.mk (some ⟨b2, 0, none⟩) 1 [constI])]), .obj b2 (.cells #[vi 3, vi 0, vi 0, vi 0, .slice none 0 0] 38 (0, 0)), .obj b1 (.cells #[vi c.regions, vi c.objects, vi c.stripes, vi c.width, vi c.threads, vi c.slots, vi c.regs, vi c.locks, vi c.undo, vi c.escalate, vi c.tickets, vi c.policy] 25 (0, 0)), .sp X, .sp R])) (fun (x_ : { x_ : Nat × (Option Addr) × Nat × (List (RowR (List Instr))) // match x_ with | (i, ta, tc, q) => (i : Int) ≤ c.threads + 1 ∧ q.length = i }) => match x_.1 with | (i, ta, tc, q) => (c.threads + 1).toNat - i) ⟨(0, (some ⟨b4, 0, none⟩), 0, []), by exact ⟨by omega, rfl⟩⟩ [0, 0, 0, 0, 0, 0] (by kernel_rfl) (by kernel_rfl) (by kernel_rfl) ?_
          rintro ⟨⟨i, ta, tc, q⟩, hi1⟩
          have hi1 : (i : Int) ≤ c.threads + 1 ∧ q.length = i := hi1
          obtain ⟨hi1_0, hi1_1⟩ := hi1
          refine g_adv 5 [.o 521680 2, .c 521681, .c 260841] 1 [(1, .slice a l.length cp), (3, pt b1 0), (7, .slice (some ⟨b3, 0, none⟩) (([[constI]]).length) 1), (8, .slice ta q.length tc), (9, vi 1), (10, vi (i : Int)), (42, vi (i : Int)), (43, pt b1 4)] (by kernel_rfl) ?_
          refine g_op (by kernel_rfl) (ot_load 3 b1 4 (vi c.threads) (by kernel_rfl) (by kernel_rfl) ?_)
          refine g_adv 2 [] 1 [(1, .slice a l.length cp), (3, pt b1 0), (7, .slice (some ⟨b3, 0, none⟩) (([[constI]]).length) 1), (8, .slice ta q.length tc), (9, vi 1), (10, vi (i : Int)), (45, vb (decide ((i : Int) ≤ c.threads)))] (by kernel_rfl) ?_
          refine g_cond (decide ((i : Int) ≤ c.threads)) (by kernel_rfl) (fun h5 => ?_) (fun h5 => ?_)
          · have h5p : (i : Int) ≤ c.threads := of_decide_eq_true h5
            refine g_adv 6 [.o 1043364 2, .b 2, .c 521683] 2 [(1, .slice a l.length cp), (3, pt b1 0), (7, .slice (some ⟨b3, 0, none⟩) (([[constI]]).length) 1), (9, vi 1), (10, vi (i : Int)), (48, .slice ta q.length tc), (49, .slice (some ⟨b3, 0, none⟩) (([[constI]]).length) 1)] (by kernel_rfl) ?_
            refine g_op (by kernel_rfl) (ot_lit 79 1 #[.slice (some ⟨b3, 0, none⟩) (([[constI]]).length) 1] (by kernel_rfl) ?_)
            intro b5
            refine g_lit 0 b5 #[.slice (some ⟨b3, 0, none⟩) (([[constI]]).length) 1] 79 1 encR2 (fun _ => rfl) [(RowR.mk (some ⟨b3, 0, none⟩) 1 [[constI]])] (by kernel_rfl) (by rfl) ?_
            refine g_op (by kernel_rfl) (ot_append (T := 79) (sz := 1) (enc := encR2) (ad := ta) (cap := tc) (l := q) (ys := [(RowR.mk (some ⟨b3, 0, none⟩) 1 [[constI]])]) (ya := (some ⟨b5, 0, none⟩)) (yc := 1) (Y := (Sl 79 1 encR2 (some ⟨b5, 0, none⟩) 1 [(RowR.mk (some ⟨b3, 0, none⟩) 1 [[constI]])])) 1 0 24 (Sl.reads (T := 79) (sz := 1) (enc := encR2) (ad := (some ⟨b5, 0, none⟩)) (cap := 1) (l := [(RowR.mk (some ⟨b3, 0, none⟩) 1 [[constI]])])) (by kernel_rfl) (by kernel_rfl) (by kernel_rfl) (fun _ => rfl) (by first | omega | (simp; done) | (simp; omega) | (simp at *; omega)) (by first | omega | (simp; done) | (simp; omega) | (simp at *; omega)) ?_)
            intro a1 c1
            refine g_adv 6 [.o 521683 2] 3 [(1, .slice a l.length cp), (3, pt b1 0), (7, .slice (some ⟨b3, 0, none⟩) (([[constI]]).length) 1), (8, .slice a1 ((q ++ [(RowR.mk (some ⟨b3, 0, none⟩) 1 [[constI]])]).length) c1), (9, vi 1), (47, vi (wI ((i : Int) + 1)))] (by kernel_rfl) ?_
            refine g_val 47 (vi (wI ((i : Int) + 1))) (vi ((i + 1 : Nat) : Int)) (wI_eq (by omega) (by omega) (by omega)) (by kernel_rfl) ?_
            refine g_adv 2 [] 1 [(1, .slice a l.length cp), (3, pt b1 0), (7, .slice (some ⟨b3, 0, none⟩) (([[constI]]).length) 1), (8, .slice a1 ((q ++ [(RowR.mk (some ⟨b3, 0, none⟩) 1 [[constI]])]).length) c1), (9, vi 1), (10, vi ((i + 1 : Nat) : Int))] (by kernel_rfl) ?_
            refine g_round ⟨(i + 1, a1, c1, q ++ [(RowR.mk (some ⟨b3, 0, none⟩) 1 [[constI]])]), by exact ⟨by omega, by simp; omega⟩⟩ [1, 1, 1, 1, 1, 1] (by first | omega | (simp; done) | (simp; omega)) (by kernel_rfl) (by kernel_rfl)
          · have h5p : ¬ ((i : Int) ≤ c.threads) := of_decide_eq_false h5
            refine g_adv 4 [.o 510 0, .c 511] 6 [(1, .slice a l.length cp), (3, pt b1 0), (8, .slice ta q.length tc), (9, vi 1)] (by kernel_rfl) ?_
            refine g_op (by kernel_rfl) (ot_loadA 3 b1 0 [vi c.regions, vi c.objects, vi c.stripes, vi c.width, vi c.threads, vi c.slots, vi c.regs, vi c.locks, vi c.undo, vi c.escalate, vi c.tickets, vi c.policy] (by kernel_rfl) (by kernel_rfl) ?_)
            refine g_adv 2 [.o 510 3] 1 [(9, vi 1), (77, .agg #[vi c.regions, vi c.objects, vi c.stripes, vi c.width, vi c.threads, vi c.slots, vi c.regs, vi c.locks, vi c.undo, vi c.escalate, vi c.tickets, vi c.policy]), (78, .slice a l.length cp), (79, .slice ta q.length tc)] (by kernel_rfl) ?_
            refine g_pack [4, 0] [.sp X, .sp (Sl 79 1 encR2 ta tc q)] (by kernel_rfl) ?_
            have pk1 := PartOf.dens (L := [.sp X, .sp (Sl 79 1 encR2 ta tc q)]) (c := .sp X) (List.Mem.head _)
            have rp1 := pk1.reads rl
            have pk2 := PartOf.dens (L := [.sp X, .sp (Sl 79 1 encR2 ta tc q)]) (c := .sp (Sl 79 1 encR2 ta tc q)) (List.Mem.tail _ (List.Mem.head _))
            have rp2 := pk2.reads (Sl.reads (T := 79) (sz := 1) (enc := encR2) (ad := ta) (cap := tc) (l := q))
            refine g_op (by kernel_rfl) (ot_call [0] (c_stm_New_range c a cp l ta tc q (dens [.sp X, .sp (Sl 79 1 encR2 ta tc q)]) rp1 rp2 (by exact hk) (by exact hw) (by first | omega | simp) (by first | (left; omega) | (right; rfl) | (right; simp))) (by kernel_rfl) (by kernel_rfl) ?_)
            intro _
            refine g_unpack 0 [.sp X, .sp (Sl 79 1 encR2 ta tc q)] (by kernel_rfl) ?_
            refine g_adv 8 [.o 1022 0, .c 1023] 2 [(9, vi 1), (13, .pointer none), (14, vi 1)] (by kernel_rfl) ?_
            refine g_op (by kernel_rfl) (ot_call [] (c_ltklaw19_first) (by kernel_rfl) (by kernel_rfl) ?_)
            intro _
            refine g_adv 12 [] 2 [(6, vb true)] (by kernel_rfl) ?_
            refine g_post () [0, 4] [vb true] (.tmp (by kernel_rfl) .nil) (rfl) (by kernel_rfl)
        · have h4p : iand how 3 ≠ 1 := ne_of_beq_false h4
          refine g_adv 5 [.c 32607] 1 [(1, .slice a l.length cp), (3, pt b1 0), (7, .slice (some ⟨b3, 0, none⟩) (([[constI]]).length) 1), (8, .slice (some ⟨b4, 0, none⟩) 0 0), (9, vi 1), (33, vi (iand how 3)), (52, vb (iand how 3 == 2))] (by kernel_rfl) ?_
          refine g_cond (iand how 3 == 2) (by kernel_rfl) (fun h5 => ?_) (fun h5 => ?_)
          · have h5p : iand how 3 = 2 := eq_of_beq h5
            refine g_adv 10 [.c 1043434, .b 3, .c 260859] 1 [(1, .slice a l.length cp), (3, pt b1 0), (7, .slice (some ⟨b3, 0, none⟩) (([[constI]]).length) 1), (8, .slice (some ⟨b4, 0, none⟩) 0 0), (9, vi 1), (11, .slice none 0 0), (12, vi 0)] (by kernel_rfl) ?_
            refine g_nil 39 1 encR1 (fun _ => rfl) ?_
            refine g_loop' (fun (x_ : { x_ : Nat × (Option Addr) × Nat × (List (RowR Instr)) // match x_ with | (i, qa, qc, q) => i ≤ 21 ∧ q.length = i }) => match x_.1 with | (i, qa, qc, q) => ([(1, .slice a l.length cp), (3, pt b1 0), (7, .slice (some ⟨b3, 0, none⟩) (([[constI]]).length) 1), (8, .slice (some ⟨b4, 0, none⟩) 0 0), (9, vi 1), (11, .slice qa q.length qc), (12, vi (i : Int))], [.sp (Sl 79 1 encR2 (some ⟨b4, 0, none⟩) 0 []), .sp (Sl 39 1 encR1 (some ⟨b3, 0, none⟩) 1 [(RowR.mk (some ⟨b2, 0, none⟩) 1 [constI])]), .obj b2 (.cells #[vi 3, vi 0, vi 0, vi 0, .slice none 0 0] 38 (0, 0)), .obj b1 (.cells #[vi c.regions, vi c.objects, vi c.stripes, vi c.width, vi c.threads, vi c.slots, vi c.regs, vi c.locks, vi c.undo, vi c.escalate, vi c.tickets, vi c.policy] 25 (0, 0)), .sp X, .sp R, .sp (Sl 39 1 encR1 qa qc q)])) (fun (x_ : { x_ : Nat × (Option Addr) × Nat × (List (RowR Instr)) // match x_ with | (i, qa, qc, q) => i ≤ 21 ∧ q.length = i }) => match x_.1 with | (i, qa, qc, q) => 21 - i) ⟨(0, none, 0, []), by exact ⟨by omega, rfl⟩⟩ [1, 1, 1, 1, 1, 1, 0] (by kernel_rfl) (by kernel_rfl) (by kernel_rfl) ?_
            rintro ⟨⟨i, qa, qc, q⟩, hi1⟩
            have hi1 : i ≤ 21 ∧ q.length = i := hi1
            obtain ⟨hi1_0, hi1_1⟩ := hi1
            refine g_adv 6 [.c 8347473, .c 4173737] 1 [(1, .slice a l.length cp), (3, pt b1 0), (7, .slice (some ⟨b3, 0, none⟩) (([[constI]]).length) 1), (8, .slice (some ⟨b4, 0, none⟩) 0 0), (9, vi 1), (11, .slice qa q.length qc), (12, vi (i : Int)), (55, vb (decide ((i : Int) ≤ 20)))] (by kernel_rfl) ?_
            refine g_cond (decide ((i : Int) ≤ 20)) (by kernel_rfl) (fun h6 => ?_) (fun h6 => ?_)
            · have h6p : (i : Int) ≤ 20 := of_decide_eq_true h6
              refine g_adv 6 [.o 16694948 2, .b 4, .c 8347475] 2 [(1, .slice a l.length cp), (3, pt b1 0), (7, .slice (some ⟨b3, 0, none⟩) (([[constI]]).length) 1), (8, .slice (some ⟨b4, 0, none⟩) 0 0), (9, vi 1), (12, vi (i : Int)), (58, .slice qa q.length qc), (59, .slice (some ⟨b3, 0, none⟩) (([[constI]]).length) 1)] (by kernel_rfl) ?_
              refine g_op (by kernel_rfl) (ot_val (pt b3 (0 + 0 * 1)) (run_ix b3 0 (([[constI]]).length) 1 0 1 (by kernel_rfl) (by simp) (by simp)) ?_)
              obtain ⟨⟨xa1, xc1, xl1⟩, hx1⟩ : ∃ x, [(RowR.mk (some ⟨b2, 0, none⟩) 1 [constI])][0]? = some x := ⟨_, List.getElem?_eq_getElem (by simp)⟩
              refine g_op (by kernel_rfl) (ot_loadS 1 b3 0 0 0 (0 + 0 * 1) (.slice xa1 xl1.length xc1) (Sl.reads (T := 39) (sz := 1) (enc := encR1) (ad := (some ⟨b3, 0, none⟩)) (cap := 1) (l := [(RowR.mk (some ⟨b2, 0, none⟩) 1 [constI])])) (by kernel_rfl) (by kernel_rfl) (by rfl) hx1 (by rfl) ?_)
              refine g_op (by kernel_rfl) (ot_lit 39 1 #[.slice xa1 xl1.length xc1] (by kernel_rfl) ?_)
              intro b5
              refine g_lit 0 b5 #[.slice xa1 xl1.length xc1] 39 1 encR1 (fun _ => rfl) [(RowR.mk xa1 xc1 xl1)] (by kernel_rfl) (by rfl) ?_
              refine g_op (by kernel_rfl) (ot_append (T := 39) (sz := 1) (enc := encR1) (ad := qa) (cap := qc) (l := q) (ys := [(RowR.mk xa1 xc1 xl1)]) (ya := (some ⟨b5, 0, none⟩)) (yc := 1) (Y := (Sl 39 1 encR1 (some ⟨b5, 0, none⟩) 1 [(RowR.mk xa1 xc1 xl1)])) 7 0 24 (Sl.reads (T := 39) (sz := 1) (enc := encR1) (ad := (some ⟨b5, 0, none⟩)) (cap := 1) (l := [(RowR.mk xa1 xc1 xl1)])) (by kernel_rfl) (by kernel_rfl) (by kernel_rfl) (fun _ => rfl) (by first | omega | (simp; done) | (simp; omega) | (simp at *; omega)) (by first | omega | (simp; done) | (simp; omega) | (simp at *; omega)) ?_)
              intro a1 c1
              refine g_adv 6 [.o 8347475 2] 3 [(1, .slice a l.length cp), (3, pt b1 0), (7, .slice (some ⟨b3, 0, none⟩) (([[constI]]).length) 1), (8, .slice (some ⟨b4, 0, none⟩) 0 0), (9, vi 1), (11, .slice a1 ((q ++ [(RowR.mk xa1 xc1 xl1)]).length) c1), (57, vi (wI ((i : Int) + 1)))] (by kernel_rfl) ?_
              refine g_val 57 (vi (wI ((i : Int) + 1))) (vi ((i + 1 : Nat) : Int)) (wI_eq (by omega) (by omega) (by omega)) (by kernel_rfl) ?_
              refine g_adv 2 [] 1 [(1, .slice a l.length cp), (3, pt b1 0), (7, .slice (some ⟨b3, 0, none⟩) (([[constI]]).length) 1), (8, .slice (some ⟨b4, 0, none⟩) 0 0), (9, vi 1), (11, .slice a1 ((q ++ [(RowR.mk xa1 xc1 xl1)]).length) c1), (12, vi ((i + 1 : Nat) : Int))] (by kernel_rfl) ?_
              refine g_round ⟨(i + 1, a1, c1, q ++ [(RowR.mk xa1 xc1 xl1)]), by exact ⟨by omega, by simp; omega⟩⟩ [1, 1, 1, 1, 1, 1, 1] (by first | omega | (simp; done) | (simp; omega)) (by kernel_rfl) (by kernel_rfl)
            · have h6p : ¬ ((i : Int) ≤ 20) := of_decide_eq_false h6
              obtain rfl : i = 21 := by omega
              refine g_val 11 (.slice qa q.length qc) (.slice qa ((List.replicate 21 [constI]).length) qc) (by rw [hi1_1]; rfl) (by kernel_rfl) ?_
              refine g_adv 4 [.o 260859 2] 5 [(1, .slice a l.length cp), (3, pt b1 0), (9, vi 1), (64, .slice (some ⟨b4, 0, none⟩) 0 0), (65, .slice qa ((List.replicate 21 [constI]).length) qc)] (by kernel_rfl) ?_
              refine g_op (by kernel_rfl) (ot_lit 79 1 #[.slice qa ((List.replicate 21 [constI]).length) qc] (by kernel_rfl) ?_)
              intro b5
              refine g_lit 0 b5 #[.slice qa ((List.replicate 21 [constI]).length) qc] 79 1 encR2 (fun _ => rfl) [(RowR.mk qa qc (List.replicate 21 [constI]))] (by kernel_rfl) (by rfl) ?_
              refine g_op (by kernel_rfl) (ot_append (T := 79) (sz := 1) (enc := encR2) (ad := (some ⟨b4, 0, none⟩)) (cap := 0) (l := []) (ys := [(RowR.mk qa qc (List.replicate 21 [constI]))]) (ya := (some ⟨b5, 0, none⟩)) (yc := 1) (Y := (Sl 79 1 encR2 (some ⟨b5, 0, none⟩) 1 [(RowR.mk qa qc (List.replicate 21 [constI]))])) 1 0 24 (Sl.reads (T := 79) (sz := 1) (enc := encR2) (ad := (some ⟨b5, 0, none⟩)) (cap := 1) (l := [(RowR.mk qa qc (List.replicate 21 [constI]))])) (by kernel_rfl) (by kernel_rfl) (by kernel_rfl) (fun _ => rfl) (by first | omega | (simp; done) | (simp; omega) | (simp at *; omega)) (by first | omega | (simp; done) | (simp; omega) | (simp at *; omega)) ?_)
              intro a1 c1
              refine g_adv 5 [.o 510 0, .c 511] 3 [(1, .slice a l.length cp), (3, pt b1 0), (8, .slice a1 (([] ++ [(RowR.mk qa qc (List.replicate 21 [constI]))]).length) c1), (9, vi 1)] (by kernel_rfl) ?_
              refine g_op (by kernel_rfl) (ot_loadA 4 b1 0 [vi c.regions, vi c.objects, vi c.stripes, vi c.width, vi c.threads, vi c.slots, vi c.regs, vi c.locks, vi c.undo, vi c.escalate, vi c.tickets, vi c.policy] (by kernel_rfl) (by kernel_rfl) ?_)
              refine g_adv 2 [.o 510 3] 1 [(9, vi 1), (77, .agg #[vi c.regions, vi c.objects, vi c.stripes, vi c.width, vi c.threads, vi c.slots, vi c.regs, vi c.locks, vi c.undo, vi c.escalate, vi c.tickets, vi c.policy]), (78, .slice a l.length cp), (79, .slice a1 (([] ++ [(RowR.mk qa qc (List.replicate 21 [constI]))]).length) c1)] (by kernel_rfl) ?_
              refine g_pack [5, 1] [.sp X, .sp (Sl 79 1 encR2 a1 c1 ([] ++ [(RowR.mk qa qc (List.replicate 21 [constI]))]))] (by kernel_rfl) ?_
              have pk1 := PartOf.dens (L := [.sp X, .sp (Sl 79 1 encR2 a1 c1 ([] ++ [(RowR.mk qa qc (List.replicate 21 [constI]))]))]) (c := .sp X) (List.Mem.head _)
              have rp1 := pk1.reads rl
              have pk2 := PartOf.dens (L := [.sp X, .sp (Sl 79 1 encR2 a1 c1 ([] ++ [(RowR.mk qa qc (List.replicate 21 [constI]))]))]) (c := .sp (Sl 79 1 encR2 a1 c1 ([] ++ [(RowR.mk qa qc (List.replicate 21 [constI]))]))) (List.Mem.tail _ (List.Mem.head _))
              have rp2 := pk2.reads (Sl.reads (T := 79) (sz := 1) (enc := encR2) (ad := a1) (cap := c1) (l := ([] ++ [(RowR.mk qa qc (List.replicate 21 [constI]))])))
              refine g_op (by kernel_rfl) (ot_call [0] (c_stm_New_range c a cp l a1 c1 ([] ++ [(RowR.mk qa qc (List.replicate 21 [constI]))]) (dens [.sp X, .sp (Sl 79 1 encR2 a1 c1 ([] ++ [(RowR.mk qa qc (List.replicate 21 [constI]))]))]) rp1 rp2 (by exact hk) (by exact hw) (by first | omega | simp) (by first | (left; omega) | (right; rfl) | (right; simp))) (by kernel_rfl) (by kernel_rfl) ?_)
              intro _
              refine g_unpack 0 [.sp X, .sp (Sl 79 1 encR2 a1 c1 ([] ++ [(RowR.mk qa qc (List.replicate 21 [constI]))]))] (by kernel_rfl) ?_
              refine g_adv 8 [.o 1022 0, .c 1023] 2 [(9, vi 1), (13, .pointer none), (14, vi 1)] (by kernel_rfl) ?_
              refine g_op (by kernel_rfl) (ot_call [] (c_ltklaw19_first) (by kernel_rfl) (by kernel_rfl) ?_)
              intro _
              refine g_adv 12 [] 2 [(6, vb true)] (by kernel_rfl) ?_
              refine g_post () [0, 5] [vb true] (.tmp (by kernel_rfl) .nil) (rfl) (by kernel_rfl)
          · have h5p : iand how 3 ≠ 2 := ne_of_beq_false h5
            refine g_adv 5 [.c 130431] 1 [(1, .slice a l.length cp), (3, pt b1 0), (8, .slice (some ⟨b4, 0, none⟩) 0 0), (9, vi 1), (68, vb (iand how 3 == 3))] (by kernel_rfl) ?_
            refine g_cond (iand how 3 == 3) (by kernel_rfl) (fun h6 => ?_) (fun h6 => ?_)
            · have h6p : iand how 3 = 3 := eq_of_beq h6
              refine g_adv 4 [.o 521724 2, .c 521725] 1 [(1, .slice a l.length cp), (3, pt b1 0), (70, .slice (some ⟨b4, 0, none⟩) 0 0), (71, .agg #[vi 5, vi 0, vi 0, vi 0, .slice none 0 0])] (by kernel_rfl) ?_
              refine g_op (by kernel_rfl) (ot_lit 38 1 #[vi 5, vi 0, vi 0, vi 0, .slice none 0 0] (by kernel_rfl) ?_)
              intro b5
              refine g_val 72 (.slice (some ⟨b5, 0, none⟩) 1 1) (.slice (some ⟨b5, 0, none⟩) (([jumpI]).length) 1) (by rfl) (by kernel_rfl) ?_
              refine g_op (by kernel_rfl) (ot_lit 39 1 #[.slice (some ⟨b5, 0, none⟩) (([jumpI]).length) 1] (by kernel_rfl) ?_)
              intro b6
              refine g_val 73 (.slice (some ⟨b6, 0, none⟩) 1 1) (.slice (some ⟨b6, 0, none⟩) (([[jumpI]]).length) 1) (by rfl) (by kernel_rfl) ?_
              refine g_op (by kernel_rfl) (ot_lit 79 1 #[.slice (some ⟨b6, 0, none⟩) (([[jumpI]]).length) 1] (by kernel_rfl) ?_)
              intro b7
              refine g_lit 0 b7 #[.slice (some ⟨b6, 0, none⟩) (([[jumpI]]).length) 1] 79 1 encR2 (fun _ => rfl) [(RowR.mk (some ⟨b6, 0, none⟩) 1 [[jumpI]])] (by kernel_rfl) (by rfl) ?_
              refine g_op (by kernel_rfl) (ot_append (T := 79) (sz := 1) (enc := encR2) (ad := (some ⟨b4, 0, none⟩)) (cap := 0) (l := []) (ys := [(RowR.mk (some ⟨b6, 0, none⟩) 1 [[jumpI]])]) (ya := (some ⟨b7, 0, none⟩)) (yc := 1) (Y := (Sl 79 1 encR2 (some ⟨b7, 0, none⟩) 1 [(RowR.mk (some ⟨b6, 0, none⟩) 1 [[jumpI]])])) 3 0 24 (Sl.reads (T := 79) (sz := 1) (enc := encR2) (ad := (some ⟨b7, 0, none⟩)) (cap := 1) (l := [(RowR.mk (some ⟨b6, 0, none⟩) 1 [[jumpI]])])) (by kernel_rfl) (by kernel_rfl) (by kernel_rfl) (fun _ => rfl) (by first | omega | (simp; done) | (simp; omega) | (simp at *; omega)) (by first | omega | (simp; done) | (simp; omega) | (simp at *; omega)) ?_)
              intro a1 c1
              refine g_adv 8 [.o 510 0, .c 511] 4 [(1, .slice a l.length cp), (3, pt b1 0), (8, .slice a1 (([] ++ [(RowR.mk (some ⟨b6, 0, none⟩) 1 [[jumpI]])]).length) c1), (9, vi 2)] (by kernel_rfl) ?_
              refine g_op (by kernel_rfl) (ot_loadA 6 b1 0 [vi c.regions, vi c.objects, vi c.stripes, vi c.width, vi c.threads, vi c.slots, vi c.regs, vi c.locks, vi c.undo, vi c.escalate, vi c.tickets, vi c.policy] (by kernel_rfl) (by kernel_rfl) ?_)
              refine g_adv 2 [.o 510 3] 1 [(9, vi 2), (77, .agg #[vi c.regions, vi c.objects, vi c.stripes, vi c.width, vi c.threads, vi c.slots, vi c.regs, vi c.locks, vi c.undo, vi c.escalate, vi c.tickets, vi c.policy]), (78, .slice a l.length cp), (79, .slice a1 (([] ++ [(RowR.mk (some ⟨b6, 0, none⟩) 1 [[jumpI]])]).length) c1)] (by kernel_rfl) ?_
              refine g_lit 1 b6 #[.slice (some ⟨b5, 0, none⟩) (([jumpI]).length) 1] 39 1 encR1 (fun _ => rfl) [(RowR.mk (some ⟨b5, 0, none⟩) 1 [jumpI])] (by kernel_rfl) (by rfl) ?_
              refine g_lit 2 b5 #[vi 5, vi 0, vi 0, vi 0, .slice none 0 0] 38 5 encN (fun _ => rfl) [(InR.mk (Instr.mk 5 0 0 0 []) none 0)] (by kernel_rfl) (by rfl) ?_
              refine g_pack [7, 3, 1, 1] [.sp X, .sp (Sl 79 1 encR2 a1 c1 ([] ++ [(RowR.mk (some ⟨b6, 0, none⟩) 1 [[jumpI]])])), .sp (Sl 39 1 encR1 (some ⟨b6, 0, none⟩) 1 [(RowR.mk (some ⟨b5, 0, none⟩) 1 [jumpI])]), .sp (Sl 38 5 encN (some ⟨b5, 0, none⟩) 1 [(InR.mk (Instr.mk 5 0 0 0 []) none 0)])] (by kernel_rfl) ?_
              have pk1 := PartOf.dens (L := [.sp X, .sp (Sl 79 1 encR2 a1 c1 ([] ++ [(RowR.mk (some ⟨b6, 0, none⟩) 1 [[jumpI]])])), .sp (Sl 39 1 encR1 (some ⟨b6, 0, none⟩) 1 [(RowR.mk (some ⟨b5, 0, none⟩) 1 [jumpI])]), .sp (Sl 38 5 encN (some ⟨b5, 0, none⟩) 1 [(InR.mk (Instr.mk 5 0 0 0 []) none 0)])]) (c := .sp X) (List.Mem.head _)
              have rp1 := pk1.reads rl
              have pk2 := PartOf.dens (L := [.sp X, .sp (Sl 79 1 encR2 a1 c1 ([] ++ [(RowR.mk (some ⟨b6, 0, none⟩) 1 [[jumpI]])])), .sp (Sl 39 1 encR1 (some ⟨b6, 0, none⟩) 1 [(RowR.mk (some ⟨b5, 0, none⟩) 1 [jumpI])]), .sp (Sl 38 5 encN (some ⟨b5, 0, none⟩) 1 [(InR.mk (Instr.mk 5 0 0 0 []) none 0)])]) (c := .sp (Sl 79 1 encR2 a1 c1 ([] ++ [(RowR.mk (some ⟨b6, 0, none⟩) 1 [[jumpI]])]))) (List.Mem.tail _ (List.Mem.head _))
              have rp2 := pk2.reads (Sl.reads (T := 79) (sz := 1) (enc := encR2) (ad := a1) (cap := c1) (l := ([] ++ [(RowR.mk (some ⟨b6, 0, none⟩) 1 [[jumpI]])])))
              have pk3 := PartOf.dens (L := [.sp X, .sp (Sl 79 1 encR2 a1 c1 ([] ++ [(RowR.mk (some ⟨b6, 0, none⟩) 1 [[jumpI]])])), .sp (Sl 39 1 encR1 (some ⟨b6, 0, none⟩) 1 [(RowR.mk (some ⟨b5, 0, none⟩) 1 [jumpI])]), .sp (Sl 38 5 encN (some ⟨b5, 0, none⟩) 1 [(InR.mk (Instr.mk 5 0 0 0 []) none 0)])]) (c := .sp (Sl 39 1 encR1 (some ⟨b6, 0, none⟩) 1 [(RowR.mk (some ⟨b5, 0, none⟩) 1 [jumpI])])) (List.Mem.tail _ (List.Mem.tail _ (List.Mem.head _)))
              have rp3 := pk3.reads (Sl.reads (T := 39) (sz := 1) (enc := encR1) (ad := (some ⟨b6, 0, none⟩)) (cap := 1) (l := [(RowR.mk (some ⟨b5, 0, none⟩) 1 [jumpI])]))
              have pk4 := PartOf.dens (L := [.sp X, .sp (Sl 79 1 encR2 a1 c1 ([] ++ [(RowR.mk (some ⟨b6, 0, none⟩) 1 [[jumpI]])])), .sp (Sl 39 1 encR1 (some ⟨b6, 0, none⟩) 1 [(RowR.mk (some ⟨b5, 0, none⟩) 1 [jumpI])]), .sp (Sl 38 5 encN (some ⟨b5, 0, none⟩) 1 [(InR.mk (Instr.mk 5 0 0 0 []) none 0)])]) (c := .sp (Sl 38 5 encN (some ⟨b5, 0, none⟩) 1 [(InR.mk (Instr.mk 5 0 0 0 []) none 0)])) (List.Mem.tail _ (List.Mem.tail _ (List.Mem.tail _ (List.Mem.head _))))
              have rp4 := pk4.reads (Sl.reads (T := 38) (sz := 5) (enc := encN) (ad := (some ⟨b5, 0, none⟩)) (cap := 1) (l := [(InR.mk (Instr.mk 5 0 0 0 []) none 0)]))
              have hall := jump_rows rp3 rp4
              refine g_op (by kernel_rfl) (ot_call [0] (c_stm_New_form c a cp l a1 c1 ([] ++ [(RowR.mk (some ⟨b6, 0, none⟩) 1 [[jumpI]])]) (dens [.sp X, .sp (Sl 79 1 encR2 a1 c1 ([] ++ [(RowR.mk (some ⟨b6, 0, none⟩) 1 [[jumpI]])])), .sp (Sl 39 1 encR1 (some ⟨b6, 0, none⟩) 1 [(RowR.mk (some ⟨b5, 0, none⟩) 1 [jumpI])]), .sp (Sl 38 5 encN (some ⟨b5, 0, none⟩) 1 [(InR.mk (Instr.mk 5 0 0 0 []) none 0)])]) rp1 rp2 (by exact hk) (by exact hw) (by first | omega | simp) (by simp; omega) (by rfl) (by exact hall) (by exact jump_form c _ _)) (by kernel_rfl) (by kernel_rfl) ?_)
              intro _
              refine g_unpack 0 [.sp X, .sp (Sl 79 1 encR2 a1 c1 ([] ++ [(RowR.mk (some ⟨b6, 0, none⟩) 1 [[jumpI]])])), .sp (Sl 39 1 encR1 (some ⟨b6, 0, none⟩) 1 [(RowR.mk (some ⟨b5, 0, none⟩) 1 [jumpI])]), .sp (Sl 38 5 encN (some ⟨b5, 0, none⟩) 1 [(InR.mk (Instr.mk 5 0 0 0 []) none 0)])] (by kernel_rfl) ?_
              refine g_adv 8 [.o 1022 0, .c 1023] 2 [(9, vi 2), (13, .pointer none), (14, vi 2)] (by kernel_rfl) ?_
              refine g_op (by kernel_rfl) (ot_call [] (c_ltklaw19_first) (by kernel_rfl) (by kernel_rfl) ?_)
              intro _
              refine g_adv 12 [] 2 [(6, vb true)] (by kernel_rfl) ?_
              refine g_post () [0, 7] [vb true] (.tmp (by kernel_rfl) .nil) (rfl) (by kernel_rfl)
            · have h6p : iand how 3 ≠ 3 := ne_of_beq_false h6
              exfalso; have := iand3 how; omega

end Go.Proofs
