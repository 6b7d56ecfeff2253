/- The walks of the layer easy: printed by a program of this repo (wip/gen). -/
import Derived.Test.YtkhkdedngnneiaaGreatWStm0
import Derived.Test.YtkhkdedngnneiaaGreatMEasy
import Derived.Test.YtkhkdedngnneiaaGreatProg
namespace Go.Proofs
open Go Go.Sl Go.Lk
set_option maxRecDepth 20000
set_option linter.unusedVariables false

theorem c_hand_Hand_Phase (p : Nat) (kb : Nat) (s : Hand) : Ct Tryz.prog 13 [pt p 0] [.sp (HandP p kb s)] (fun _ : Unit => vi s.phase) (fun _ => [.sp (HandP p kb s)]) := by
  refine ct_intro Tryz.f13 7 Tryz.func13 rfl rfl rfl (fun E R => ?_)
  refine g_adv 9 [.o 6 3, .c 7] 1 [(5, pt p 10)] (by kernel_rfl) ?_
  refine g_open 0 (HandPF p kb s) (by kernel_rfl) ?_
  rintro ⟨ra1, rc1, da1, dc1, wa1, wc1, ha1, hc1, pa1, pc1, lb1, ob1, mb1⟩
  refine g_op (by kernel_rfl) (ot_load 0 p 10 (vi s.phase) (by kernel_rfl) (by kernel_rfl) ?_)
  refine g_adv 3 [] 2 [(2, vi s.phase)] (by kernel_rfl) ?_
  refine g_close (HandPF p kb s) (ra1, rc1, da1, dc1, wa1, wc1, ha1, hc1, pa1, pc1, lb1, ob1, mb1) [0, 0, 0, 0, 0, 0, 0, 0, 0] (by kernel_rfl) ?_
  refine g_post () [0, 0] [vi s.phase] (.tmp (by kernel_rfl) .nil) (rfl) (by kernel_rfl)

theorem c_hand_begins_easy (p : Nat) (kb : Nat) (s : Hand) (he : (s.progs.length : Int) ≤ s.prog) : Ct Tryz.prog 56 [pt p 0] [.sp (HandP p kb s)] (fun _ : Unit => .tuple #[]) (fun _ => [.sp (HandP p kb ({ s with phase := 6 }))]) := by
  refine ct_intro Tryz.f56 86 Tryz.func56 rfl rfl rfl (fun E R => ?_)
  refine g_adv 2 [.c 4, .c 5, .c 3] 1 [(0, pt p 0)] (by kernel_rfl) ?_
  refine d_start (by kernel_rfl) (by kernel_rfl) ?_
  refine d_open 0 (HandPF p kb s) (by kernel_rfl) ?_
  rintro ⟨ra1, rc1, da1, dc1, wa1, wc1, ha1, hc1, pa1, pc1, lb1, ob1, mb1⟩
  refine d_end [(0, pt p 0), (1, pt p 0), (2, pt p 11), (3, vi s.prog), (4, pt p 0), (5, pt p 0), (6, pt p 9), (7, .slice pa1 s.progs.length pc1), (8, vi (s.progs.length : Int)), (9, vb (decide (s.prog ≥ (s.progs.length : Int))))] [(0, pt p 0), (13, vb (decide (s.prog ≥ (s.progs.length : Int))))] (by kernel_rfl) (.plainN 3 (by kernel_rfl) (.one _ _ (evOK_loadC 0 p 11 _ (by kernel_rfl) (by kernel_rfl)) (.plainN 3 (by kernel_rfl) (.one _ _ (evOK_loadC 0 p 9 _ (by kernel_rfl) (by kernel_rfl)) (.plainN 2 (by kernel_rfl) .nil))))) (by kernel_rfl) ?_
  refine g_cond (decide (s.prog ≥ (s.progs.length : Int))) (by kernel_rfl) (fun h1 => ?_) (fun h1 => ?_)
  · have h1p : s.prog ≥ (s.progs.length : Int) := of_decide_eq_true h1
    refine g_adv 5 [.o 20 3, .c 21] 1 [(16, pt p 10)] (by kernel_rfl) ?_
    refine g_op (by kernel_rfl) (ot_store 0 p 10 [vi 6] (by kernel_rfl) (by kernel_rfl) ?_)
    refine g_adv 2 [] 3 [] (by kernel_rfl) ?_
    refine g_close (HandPF p kb ({ s with phase := 6 })) (ra1, rc1, da1, dc1, wa1, wc1, ha1, hc1, pa1, pc1, lb1, ob1, mb1) [0, 0, 0, 0, 0, 0, 0, 0, 0] (by kernel_rfl) ?_
    refine g_post () [0, 0] [] .nil (rfl) (by kernel_rfl)
  · have h1p : ¬ (s.prog ≥ (s.progs.length : Int)) := of_decide_eq_false h1
    exfalso; omega

theorem c_hand_Step_easy (p : Nat) (kb : Nat) (s : Hand) (he : Easy s) : Ct Tryz.prog 12 [pt p 0] [.sp (HandP p kb s)] (fun _ : Unit => vb ((step0 s).2)) (fun _ => [.sp (HandP p kb ((step0 s).1))]) := by
  refine ct_intro Tryz.f12 44 Tryz.func12 rfl rfl rfl (fun E R => ?_)
  refine g_adv 10 [.o 12 3, .c 13, .c 7] 1 [(0, pt p 0), (5, pt p 10)] (by kernel_rfl) ?_
  refine g_open 0 (HandPF p kb s) (by kernel_rfl) ?_
  rintro ⟨ra1, rc1, da1, dc1, wa1, wc1, ha1, hc1, pa1, pc1, lb1, ob1, mb1⟩
  refine g_op (by kernel_rfl) (ot_load 0 p 10 (vi s.phase) (by kernel_rfl) (by kernel_rfl) ?_)
  refine g_adv 7 [.c 53, .b 0] 2 [(0, pt p 0), (6, vi s.phase), (7, vb (s.phase == 0))] (by kernel_rfl) ?_
  refine g_cond (s.phase == 0) (by kernel_rfl) (fun h1 => ?_) (fun h1 => ?_)
  · have h1p : s.phase = 0 := eq_of_beq h1
    refine g_adv 2 [.o 106 1] 1 [(9, pt p 0)] (by kernel_rfl) ?_
    refine g_close (HandPF p kb s) (ra1, rc1, da1, dc1, wa1, wc1, ha1, hc1, pa1, pc1, lb1, ob1, mb1) [0, 0, 0, 0, 0, 0, 0, 0, 0] (by kernel_rfl) ?_
    refine g_op (by kernel_rfl) (ot_call [0] (c_hand_begins_easy p kb s (by rcases he with q | q <;> omega)) (by kernel_rfl) (by kernel_rfl) ?_)
    intro _
    refine g_adv 7 [] 3 [(2, vb true)] (by kernel_rfl) ?_
    refine g_sp 0 (HandP p kb ({ s with phase := 6 })) (HandP p kb ((step0 s).1)) (by kernel_rfl) (congrArg (fun z_ => HandP p kb z_) (show { s with phase := 6 } = (step0 s).1 from by first | (rw [step0_ready (by assumption)]; done) | (rw [step0_done (by assumption)]; done))) ?_
    refine g_post () [0, 0] [vb true] (.tmp (by kernel_rfl) .nil) (by first | (rw [step0_ready (by assumption)]; rfl) | (rw [step0_done (by assumption)]; rfl)) (by kernel_rfl)
  · have h1p : s.phase ≠ 0 := ne_of_beq_false h1
    refine g_adv 5 [.c 215] 1 [(0, pt p 0), (6, vi s.phase), (11, vb (s.phase == 1))] (by kernel_rfl) ?_
    refine g_cond (s.phase == 1) (by kernel_rfl) (fun h2 => ?_) (fun h2 => ?_)
    · have h2p : s.phase = 1 := eq_of_beq h2
      exfalso; rcases he with q | q <;> omega
    · have h2p : s.phase ≠ 1 := ne_of_beq_false h2
      refine g_adv 5 [.c 863] 1 [(0, pt p 0), (6, vi s.phase), (15, vb (s.phase == 2))] (by kernel_rfl) ?_
      refine g_cond (s.phase == 2) (by kernel_rfl) (fun h3 => ?_) (fun h3 => ?_)
      · have h3p : s.phase = 2 := eq_of_beq h3
        exfalso; rcases he with q | q <;> omega
      · have h3p : s.phase ≠ 2 := ne_of_beq_false h3
        refine g_adv 5 [.c 3455] 1 [(0, pt p 0), (6, vi s.phase), (19, vb (s.phase == 3))] (by kernel_rfl) ?_
        refine g_cond (s.phase == 3) (by kernel_rfl) (fun h4 => ?_) (fun h4 => ?_)
        · have h4p : s.phase = 3 := eq_of_beq h4
          exfalso; rcases he with q | q <;> omega
        · have h4p : s.phase ≠ 3 := ne_of_beq_false h4
          refine g_adv 5 [.c 13823] 1 [(0, pt p 0), (6, vi s.phase), (23, vb (s.phase == 4))] (by kernel_rfl) ?_
          refine g_cond (s.phase == 4) (by kernel_rfl) (fun h5 => ?_) (fun h5 => ?_)
          · have h5p : s.phase = 4 := eq_of_beq h5
            exfalso; rcases he with q | q <;> omega
          · have h5p : s.phase ≠ 4 := ne_of_beq_false h5
            refine g_adv 5 [.c 55295] 1 [(0, pt p 0), (27, vb (s.phase == 5))] (by kernel_rfl) ?_
            refine g_cond (s.phase == 5) (by kernel_rfl) (fun h6 => ?_) (fun h6 => ?_)
            · have h6p : s.phase = 5 := eq_of_beq h6
              exfalso; rcases he with q | q <;> omega
            · have h6p : s.phase ≠ 5 := ne_of_beq_false h6
              refine g_adv 5 [] 3 [(2, vb false)] (by kernel_rfl) ?_
              refine g_close (HandPF p kb s) (ra1, rc1, da1, dc1, wa1, wc1, ha1, hc1, pa1, pc1, lb1, ob1, mb1) [0, 0, 0, 0, 0, 0, 0, 0, 0] (by kernel_rfl) ?_
              refine g_sp 0 (HandP p kb s) (HandP p kb ((step0 s).1)) (by kernel_rfl) (congrArg (fun z_ => HandP p kb z_) (show s = (step0 s).1 from by first | (rw [step0_ready (by assumption)]; done) | (rw [step0_done (by assumption)]; done))) ?_
              refine g_post () [0, 0] [vb false] (.tmp (by kernel_rfl) .nil) (by first | (rw [step0_ready (by assumption)]; rfl) | (rw [step0_done (by assumption)]; rfl)) (by kernel_rfl)

theorem c_core_Core_Now (p : Nat) (k : Core) : Ct Tryz.prog 88 [pt p 0] [.sp (CoreP p k)] (fun _ : Unit => vi k.now) (fun _ => [.sp (CoreP p k)]) := by
  refine ct_intro Tryz.f88 7 Tryz.func88 rfl rfl rfl (fun E R => ?_)
  refine g_adv 9 [.o 6 3, .c 7] 1 [(5, pt p 4)] (by kernel_rfl) ?_
  refine g_open 0 (CorePF p k) (by kernel_rfl) ?_
  rintro ⟨pb1, ta1, tc1, aa1, ac1, da1, dc1⟩
  refine g_op (by kernel_rfl) (ot_load 0 p 4 (vi k.now) (by kernel_rfl) (by kernel_rfl) ?_)
  refine g_adv 3 [] 2 [(2, vi k.now)] (by kernel_rfl) ?_
  refine g_close (CorePF p k) (pb1, ta1, tc1, aa1, ac1, da1, dc1) [0, 0, 0, 0, 0] (by kernel_rfl) ?_
  refine g_post () [0, 0] [vi k.now] (.tmp (by kernel_rfl) .nil) (rfl) (by kernel_rfl)

theorem c_core_Core_Pass (p : Nat) (k : Core) (h0 : 0 ≤ k.now) (h1 : k.now < 4611686018427387904) : Ct Tryz.prog 185 [pt p 0] [.sp (CoreP p k)] (fun _ : Unit => .tuple #[]) (fun _ => [.sp (CoreP p (pass k))]) := by
  refine ct_intro Tryz.f185 9 Tryz.func185 rfl rfl rfl (fun E R => ?_)
  refine g_adv 4 [.o 1 3] 1 [(2, pt p 0), (4, pt p 4)] (by kernel_rfl) ?_
  refine g_open 0 (CorePF p k) (by kernel_rfl) ?_
  rintro ⟨pb1, ta1, tc1, aa1, ac1, da1, dc1⟩
  refine g_op (by kernel_rfl) (ot_load 0 p 4 (vi k.now) (by kernel_rfl) (by kernel_rfl) ?_)
  refine g_adv 1 [.o 1 5] 1 [(2, pt p 0), (6, vi (wI (k.now + 1)))] (by kernel_rfl) ?_
  refine g_val 6 (vi (wI (k.now + 1))) (vi (k.now + 1)) (wI_eq (by omega) (by omega) (by omega)) (by kernel_rfl) ?_
  refine g_adv 2 [.o 1 7] 1 [(6, vi (k.now + 1)), (8, pt p 4)] (by kernel_rfl) ?_
  refine g_op (by kernel_rfl) (ot_store 0 p 4 [vi (k.now + 1)] (by kernel_rfl) (by kernel_rfl) ?_)
  refine g_adv 1 [] 1 [] (by kernel_rfl) ?_
  refine g_close (CorePF p ({ k with now := k.now + 1 })) (pb1, ta1, tc1, aa1, ac1, da1, dc1) [0, 0, 0, 0, 0] (by kernel_rfl) ?_
  refine g_sp 0 (CoreP p ({ k with now := k.now + 1 })) (CoreP p (pass k)) (by kernel_rfl) (congrArg (fun z_ => CoreP p z_) (show { k with now := k.now + 1 } = (pass k) from by rfl)) ?_
  refine g_post () [0, 0] [] .nil (rfl) (by kernel_rfl)

theorem c_stm_shared_Core (kb : Nat) : Ct Tryz.prog 87 [.agg #[pt kb 0]] [] (fun _ : Unit => pt kb 0) (fun _ => []) := by
  refine ct_intro Tryz.f87 5 Tryz.func87 rfl rfl rfl (fun E R => ?_)
  refine g_adv 2 [.o 2 0, .c 3] 1 [(0, .agg #[pt kb 0])] (by kernel_rfl) ?_
  refine g_op (by kernel_rfl) (ot_new #[pt kb 0] 144 (by kernel_rfl) ?_)
  intro b1
  refine g_adv 5 [.o 6 1, .c 7] 2 [(3, pt b1 0)] (by kernel_rfl) ?_
  refine g_op (by kernel_rfl) (ot_load 0 b1 0 (pt kb 0) (by kernel_rfl) (by kernel_rfl) ?_)
  refine g_adv 3 [] 2 [(2, pt kb 0)] (by kernel_rfl) ?_
  refine g_post () [1] [pt kb 0] (.tmp (by kernel_rfl) .nil) (rfl) (by kernel_rfl)

theorem c_picks_easy (p : Nat) (m : Mach) (n : Int) (he : AllEasy m) (hn : n ≠ m.hands.length) (hl : m.hands.length ≤ 1099511627776) : Ct Tryz.prog 184 [pt p 0, vi n] [.sp (MachP p m)] (fun _ : Unit => vb ((picks0 m n).2)) (fun _ => [.sp (MachP p ((picks0 m n).1))]) := by
  refine ct_intro Tryz.f184 41 Tryz.func184 rfl rfl rfl (fun E R => ?_)
  refine g_adv 11 [.o 24 3, .c 25, .b 0, .c 7] 1 [(0, pt p 0), (1, vi n), (8, vb (decide (n < 0)))] (by kernel_rfl) ?_
  refine g_bool 8 (decide (n < 0)) (by kernel_rfl) (fun h1 => ?_) (fun h1 => ?_)
  · have h1p : n < 0 := of_decide_eq_true h1
    refine g_adv 16 [] 4 [(4, vb false)] (by kernel_rfl) ?_
    refine g_sp 0 (MachP p m) (MachP p ((picks0 m n).1)) (by kernel_rfl) (congrArg (fun z_ => MachP p z_) (show m = (picks0 m n).1 from by first | (rw [picks0_out (m := m) (n := n) (by omega)]; done) | (rw [picks0_at (m := m) (n := n) (by omega) (by omega) (by assumption)]; done))) ?_
    refine g_post () [0, 0] [vb false] (.tmp (by kernel_rfl) .nil) (by first | (rw [picks0_out (m := m) (n := n) (by omega)]; rfl) | (rw [picks0_at (m := m) (n := n) (by omega) (by omega) (by assumption)]; rfl)) (by kernel_rfl)
  · have h1p : ¬ (n < 0) := of_decide_eq_false h1
    refine g_adv 4 [.o 24 7] 1 [(0, pt p 0), (1, vi n), (8, vb false), (9, vi n), (12, pt p 1)] (by kernel_rfl) ?_
    refine g_open 0 (MachPF p m) (by kernel_rfl) ?_
    rintro ⟨kb1, a1, cp1, hs1⟩
    refine g_manyLen (Q := (HandQ kb1)) (ps := hs1) (xs := m.hands) 3 (by kernel_rfl) (fun hml1 => ?_)
    refine g_op (by kernel_rfl) (ot_load 0 p 1 (.slice a1 hs1.length cp1) (by kernel_rfl) (by kernel_rfl) ?_)
    refine g_adv 5 [] 1 [(0, pt p 0), (1, vi n), (5, vb (decide (n > (hs1.length : Int))))] (by kernel_rfl) ?_
    refine g_cond (decide (n > (hs1.length : Int))) (by kernel_rfl) (fun h2 => ?_) (fun h2 => ?_)
    · have h2p : n > (hs1.length : Int) := of_decide_eq_true h2
      refine g_adv 5 [] 3 [(4, vb false)] (by kernel_rfl) ?_
      refine g_close (MachPF p m) (kb1, a1, cp1, hs1) [0, 0, 0, 0] (by kernel_rfl) ?_
      refine g_sp 0 (MachP p m) (MachP p ((picks0 m n).1)) (by kernel_rfl) (congrArg (fun z_ => MachP p z_) (show m = (picks0 m n).1 from by first | (rw [picks0_out (m := m) (n := n) (by omega)]; done) | (rw [picks0_at (m := m) (n := n) (by omega) (by omega) (by assumption)]; done))) ?_
      refine g_post () [0, 0] [vb false] (.tmp (by kernel_rfl) .nil) (by first | (rw [picks0_out (m := m) (n := n) (by omega)]; rfl) | (rw [picks0_at (m := m) (n := n) (by omega) (by omega) (by assumption)]; rfl)) (by kernel_rfl)
    · have h2p : ¬ (n > (hs1.length : Int)) := of_decide_eq_false h2
      refine g_adv 6 [.o 102 4, .c 103] 1 [(0, pt p 0), (1, vi n), (18, vi n), (21, pt p 1)] (by kernel_rfl) ?_
      refine g_op (by kernel_rfl) (ot_load 0 p 1 (.slice a1 hs1.length cp1) (by kernel_rfl) (by kernel_rfl) ?_)
      refine g_adv 4 [] 1 [(0, pt p 0), (1, vi n), (17, vb (n == (hs1.length : Int)))] (by kernel_rfl) ?_
      refine g_cond (n == (hs1.length : Int)) (by kernel_rfl) (fun h3 => ?_) (fun h3 => ?_)
      · have h3p : n = (hs1.length : Int) := eq_of_beq h3
        exfalso; omega
      · have h3p : n ≠ (hs1.length : Int) := ne_of_beq_false h3
        refine g_adv 7 [.o 14 3, .c 15] 3 [(1, vi n), (35, pt p 1)] (by kernel_rfl) ?_
        refine g_op (by kernel_rfl) (ot_load 0 p 1 (.slice a1 hs1.length cp1) (by kernel_rfl) (by kernel_rfl) ?_)
        refine g_adv 1 [.o 14 5] 1 [(36, .slice a1 hs1.length cp1), (37, vi n)] (by kernel_rfl) ?_
        refine g_some 2 (Sl.reads (T := 40) (sz := 1) (enc := encP) (ad := a1) (cap := cp1) (l := hs1)) (by kernel_rfl) (by omega) ?_
        rintro b1 o1 rfl
        refine g_op (by kernel_rfl) (ot_val (pt b1 (o1 + n.toNat * 1)) (run_ix b1 o1 hs1.length cp1 n 1 (by kernel_rfl) (by omega) (by omega)) ?_)
        obtain ⟨x1, hx1⟩ : ∃ x, hs1[n.toNat]? = some x := ⟨_, List.getElem?_eq_getElem (by omega)⟩
        refine g_op (by kernel_rfl) (ot_loadS 2 b1 o1 n.toNat 0 (o1 + n.toNat * 1) (pt x1 0) (Sl.reads (T := 40) (sz := 1) (enc := encP) (ad := (some ⟨b1, o1, none⟩)) (cap := cp1) (l := hs1)) (by kernel_rfl) (by kernel_rfl) (by rfl) hx1 (by rfl) ?_)
        obtain ⟨x2, hx2⟩ : ∃ x, m.hands[n.toNat]? = some x := ⟨_, List.getElem?_eq_getElem (by omega)⟩
        refine g_out (Q := (HandQ kb1)) (ps := hs1) (xs := m.hands) (p := x1) (x := x2) 3 n.toNat (by kernel_rfl) hx1 hx2 ?_
        refine g_op (by kernel_rfl) (ot_call [0] (c_hand_Step_easy x1 kb1 x2 (by exact he.easy _ (List.mem_of_getElem? (by assumption)))) (by kernel_rfl) (by kernel_rfl) ?_)
        intro _
        refine g_adv 3 [] 2 [(4, vb ((step0 x2).2))] (by kernel_rfl) ?_
        refine g_back (HandQ kb1) hs1 m.hands x1 ((step0 x2).1) n.toNat [0, 0] (by kernel_rfl) hx1 ?_
        refine g_close (MachPF p ({ m with hands := m.hands.set n.toNat ((step0 x2).1) })) (kb1, (some ⟨b1, o1, none⟩), cp1, hs1) [1, 1, 1, 0] (by kernel_rfl) ?_
        refine g_sp 0 (MachP p ({ m with hands := m.hands.set n.toNat ((step0 x2).1) })) (MachP p ((picks0 m n).1)) (by kernel_rfl) (congrArg (fun z_ => MachP p z_) (show { m with hands := m.hands.set n.toNat ((step0 x2).1) } = (picks0 m n).1 from by first | (rw [picks0_out (m := m) (n := n) (by omega)]; done) | (rw [picks0_at (m := m) (n := n) (by omega) (by omega) (by assumption)]; done))) ?_
        refine g_post () [0, 0] [vb ((step0 x2).2)] (.tmp (by kernel_rfl) .nil) (by first | (rw [picks0_out (m := m) (n := n) (by omega)]; rfl) | (rw [picks0_at (m := m) (n := n) (by omega) (by omega) (by assumption)]; rfl)) (by kernel_rfl)

theorem c_Pick_easy (p : Nat) (m : Mach) (n : Int) (he : AllEasy m) (hn : n ≠ m.hands.length) (hl : m.hands.length ≤ 1099511627776) (h0 : 0 ≤ m.core.now) (h1 : m.core.now < 4611686018427387904) : Ct Tryz.prog 140 [pt p 0, vi n] [.sp (MachP p m)] (fun _ : Unit => vb ((pick0 m n).2)) (fun _ => [.sp (MachP p ((pick0 m n).1))]) := by
  refine ct_intro Tryz.f140 16 Tryz.func140 rfl rfl rfl (fun E R => ?_)
  refine g_adv 8 [.o 6 2, .c 7] 1 [(0, pt p 0), (6, pt p 0), (7, vi n)] (by kernel_rfl) ?_
  refine g_op (by kernel_rfl) (ot_call [0] (c_picks_easy p m n (by first | omega | assumption | (simp; done) | (simp; omega)) (by first | omega | assumption | (simp; done) | (simp; omega)) (by first | omega | assumption | (simp; done) | (simp; omega))) (by kernel_rfl) (by kernel_rfl) ?_)
  intro _
  refine g_adv 8 [.o 14 4, .c 15] 2 [(5, vb ((picks0 m n).2)), (12, pt p 0)] (by kernel_rfl) ?_
  refine g_open 0 (MachPF p ((picks0 m n).1)) (by kernel_rfl) ?_
  rintro ⟨kb1, a1, cp1, hs1⟩
  refine g_manyLen (Q := (HandQ kb1)) (ps := hs1) (xs := (((picks0 m n).1).hands)) 3 (by kernel_rfl) (fun hml1 => ?_)
  refine g_op (by kernel_rfl) (ot_load 0 p 0 (pt kb1 0) (by kernel_rfl) (by kernel_rfl) ?_)
  refine g_op (by kernel_rfl) (ot_call [1] (c_core_Core_Pass kb1 (((picks0 m n).1).core) (by rw [picks0_core]; assumption) (by rw [picks0_core]; assumption)) (by kernel_rfl) (by kernel_rfl) ?_)
  intro _
  refine g_adv 7 [] 2 [(4, vb ((picks0 m n).2))] (by kernel_rfl) ?_
  refine g_close (MachPF p ({ (picks0 m n).1 with core := (pass (((picks0 m n).1).core)) })) (kb1, a1, cp1, hs1) [1, 0, 0, 0] (by kernel_rfl) ?_
  refine g_sp 0 (MachP p ({ (picks0 m n).1 with core := (pass (((picks0 m n).1).core)) })) (MachP p ((pick0 m n).1)) (by kernel_rfl) (congrArg (fun z_ => MachP p z_) (show { (picks0 m n).1 with core := (pass (((picks0 m n).1).core)) } = (pick0 m n).1 from by rfl)) ?_
  refine g_post () [0, 0] [vb ((picks0 m n).2)] (.tmp (by kernel_rfl) .nil) (by rfl) (by kernel_rfl)

theorem c_slices_Index_int_int_ (x : Int) (a : Option Addr) (cp : Nat) (l : List Int) (X : SP) (rl : Reads X 1 encI a l) (hl : l.length ≤ 1099511627776) : Ct Tryz.prog 112 [.slice a l.length cp, vi x] [.sp X] (fun _ : Unit => vi (idxOf (fun y => x == y) l)) (fun _ => [.sp X]) := by
  refine ct_intro Tryz.f112 19 Tryz.func112 rfl rfl rfl (fun E R => ?_)
  refine g_adv 12 [.c 26, .b 0, .c 7] 1 [(0, .slice a l.length cp), (1, vi x), (7, vi (l.length : Int)), (8, vi 0)] (by kernel_rfl) ?_
  refine g_loop' (fun (x_ : { x_ : Nat // match x_ with | i => i ≤ l.length ∧ (l.take i).any (fun y => x == y) = false }) => match x_.1 with | i => ([(0, .slice a l.length cp), (1, vi x), (7, vi (l.length : Int)), (8, vi (i : Int))], [.sp X, .sp R])) (fun (x_ : { x_ : Nat // match x_ with | i => i ≤ l.length ∧ (l.take i).any (fun y => x == y) = false }) => match x_.1 with | i => l.length - i) ⟨0, by simp⟩ [0, 0] (by kernel_rfl) (by kernel_rfl) (by kernel_rfl) ?_
  rintro ⟨i, hi1⟩
  have hi1 : i ≤ l.length ∧ (l.take i).any (fun y => x == y) = false := hi1
  obtain ⟨hi1_0, hi1_1⟩ := hi1
  refine g_adv 5 [.c 210, .c 211] 1 [(0, .slice a l.length cp), (1, vi x), (7, vi (l.length : Int)), (8, vi (i : Int)), (9, vb (decide ((i : Int) < (l.length : Int))))] (by kernel_rfl) ?_
  refine g_cond (decide ((i : Int) < (l.length : Int))) (by kernel_rfl) (fun h1 => ?_) (fun h1 => ?_)
  · have h1p : (i : Int) < (l.length : Int) := of_decide_eq_true h1
    refine g_adv 13 [.o 3378 3, .c 3379, .b 1, .c 423] 2 [(0, .slice a l.length cp), (1, vi x), (5, vi (i : Int)), (7, vi (l.length : Int)), (8, vi (i : Int)), (11, vi x), (12, .slice a l.length cp), (13, vi (i : Int))] (by kernel_rfl) ?_
    refine g_some 0 rl (by kernel_rfl) (by omega) ?_
    rintro b1 o1 rfl
    refine g_op (by kernel_rfl) (ot_val (pt b1 (o1 + i * 1)) (run_ix b1 o1 l.length cp (i : Int) 1 (by kernel_rfl) (by omega) (by omega)) ?_)
    obtain ⟨x1, hx1⟩ : ∃ x, l[i]? = some x := ⟨_, List.getElem?_eq_getElem (by omega)⟩
    refine g_op (by kernel_rfl) (ot_loadS 0 b1 o1 i 0 (o1 + i * 1) (vi x1) rl (by kernel_rfl) (by kernel_rfl) (by rfl) hx1 (by rfl) ?_)
    refine g_adv 2 [] 1 [(0, .slice (some ⟨b1, o1, none⟩) l.length cp), (1, vi x), (5, vi (i : Int)), (7, vi (l.length : Int)), (8, vi (i : Int)), (16, vb (x == x1))] (by kernel_rfl) ?_
    refine g_cond (x == x1) (by kernel_rfl) (fun h2 => ?_) (fun h2 => ?_)
    · have h2p : x = x1 := eq_of_beq h2
      refine g_adv 6 [] 6 [(4, vi (i : Int))] (by kernel_rfl) ?_
      refine g_post () [0, 0] [vi (i : Int)] (.tmp (by kernel_rfl) .nil) (by first | (rw [idx_hit hi1_1 hx1 (by first | assumption | (simp_all; done))]; rfl) | (rw [idx_none hi1_1]; rfl)) (by kernel_rfl)
    · have h2p : x ≠ x1 := ne_of_beq_false h2
      refine g_adv 4 [.o 423 1] 3 [(0, .slice (some ⟨b1, o1, none⟩) l.length cp), (1, vi x), (7, vi (l.length : Int)), (18, vi (wI ((i : Int) + 1)))] (by kernel_rfl) ?_
      refine g_val 18 (vi (wI ((i : Int) + 1))) (vi ((i + 1 : Nat) : Int)) (wI_eq (by omega) (by omega) (by omega)) (by kernel_rfl) ?_
      refine g_adv 2 [] 1 [(0, .slice (some ⟨b1, o1, none⟩) l.length cp), (1, vi x), (7, vi (l.length : Int)), (8, vi ((i + 1 : Nat) : Int))] (by kernel_rfl) ?_
      refine g_round ⟨i + 1, by exact ⟨by omega, any_step hi1_1 hx1 (by first | assumption | (simp_all; done))⟩⟩ [0, 0] (by first | omega | (simp; done) | (simp; omega)) (by kernel_rfl) (by kernel_rfl)
  · have h1p : ¬ ((i : Int) < (l.length : Int)) := of_decide_eq_false h1
    obtain rfl : i = l.length := by omega
    rw [List.take_length] at hi1_1
    refine g_adv 6 [] 5 [(4, vi (-1))] (by kernel_rfl) ?_
    refine g_post () [0, 0] [vi (-1)] (.tmp (by kernel_rfl) .nil) (by first | (rw [idx_hit hi1_1 hx1 (by first | assumption | (simp_all; done))]; rfl) | (rw [idx_none hi1_1]; rfl)) (by kernel_rfl)

theorem c_slices_Contains_int_int_ (x : Int) (a : Option Addr) (cp : Nat) (l : List Int) (X : SP) (rl : Reads X 1 encI a l) (hl : l.length ≤ 1099511627776) : Ct Tryz.prog 62 [.slice a l.length cp, vi x] [.sp X] (fun _ : Unit => vb (l.any (fun y => x == y))) (fun _ => [.sp X]) := by
  refine ct_intro Tryz.f62 9 Tryz.func62 rfl rfl rfl (fun E R => ?_)
  refine g_adv 8 [.o 6 2, .c 7] 1 [(5, .slice a l.length cp), (6, vi x)] (by kernel_rfl) ?_
  refine g_op (by kernel_rfl) (ot_call [0] (c_slices_Index_int_int_ x a cp l X rl (by first | omega | assumption | (simp; done) | (simp; omega))) (by kernel_rfl) (by kernel_rfl) ?_)
  intro _
  refine g_adv 4 [] 2 [(4, vb (decide (idxOf (fun y => x == y) l ≥ 0)))] (by kernel_rfl) ?_
  refine g_post () [0, 0] [vb (decide (idxOf (fun y => x == y) l ≥ 0))] (.tmp (by kernel_rfl) .nil) (by rw [← idx_any]; rfl) (by kernel_rfl)

theorem c_stm_Machine_every_1 (p : Nat) (kb : Nat) (s : Hand) (b : Nat) (la : Option Addr) (lc : Nat) (ls : List Int) (X : SP) (rl : Reads X 1 encI la ls) (hl : ls.length ≤ 1099511627776) : Ct Tryz.prog 183 [pt p 0, pt b 0] [.sp (HandP p kb s), .obj b (.cells #[.slice la ls.length lc] 30 (0, 0)), .sp X] (fun _ : Unit => vb (phaseNot ls s)) (fun _ => [.sp (HandP p kb s), .obj b (.cells #[.slice la ls.length lc] 30 (0, 0)), .sp X]) := by
  refine ct_intro Tryz.f183 9 Tryz.func183 rfl rfl rfl (fun E R => ?_)
  refine g_adv 5 [.c 6, .c 7] 1 [(0, pt p 0), (1, pt b 0)] (by kernel_rfl) ?_
  refine d_start (by kernel_rfl) (by kernel_rfl) ?_
  refine d_run1 [(0, .slice la ls.length lc), (1, pt p 0)] 2 (by kernel_rfl) (.one _ _ (evOK_loadC 1 b 0 _ (by kernel_rfl) (by kernel_rfl)) (.plainN 1 (by kernel_rfl) .nil)) (by kernel_rfl) (ot_call [0] (c_hand_Hand_Phase p kb s) (by kernel_rfl) (by kernel_rfl) ?_)
  intro _
  refine d_run1 [] 3 (by kernel_rfl) (.done _ _ (by kernel_rfl) (.one _ _ (evOK_loadC 1 b 0 _ (by kernel_rfl) (by kernel_rfl)) (.plainN 1 (by kernel_rfl) .nil))) (by kernel_rfl) (ot_call [2] (c_slices_Contains_int_int_ s.phase la lc ls X rl (by first | omega | assumption | (simp; done) | (simp; omega))) (by kernel_rfl) (by kernel_rfl) ?_)
  intro _
  refine d_done [0] (by kernel_rfl) ?_
  refine d_end [(4, vb (!(ls.any (fun y => s.phase == y)))), (5, vb (!(ls.any (fun y => s.phase == y))))] [(3, vb (!(ls.any (fun y => s.phase == y))))] (by kernel_rfl) (.plainN 2 (by kernel_rfl) (.done _ _ (by kernel_rfl) (.done _ _ (by kernel_rfl) (.done _ _ (by kernel_rfl) (.plainN 1 (by kernel_rfl) .nil))))) (by kernel_rfl) ?_
  refine g_adv 1 [] 1 [(3, vb (!(ls.any (fun y => s.phase == y))))] (by kernel_rfl) ?_
  refine g_post () [1, 1, 0, 0] [vb (!(ls.any (fun y => s.phase == y)))] (.tmp (by kernel_rfl) .nil) (by rfl) (by kernel_rfl)

theorem c_index_hands (kb : Nat) (a : Option Addr) (cp : Nat) (hs : List Nat) (ms : List Hand) (b : Nat) (la : Option Addr) (lc : Nat) (ls : List Int) (X : SP) (rl : Reads X 1 encI la ls) (hl : ls.length ≤ 1099511627776) (hms : ms.length ≤ 1099511627776) : Ct Tryz.prog 224 [.slice a hs.length cp, .func (.func 183) #[] #[pt b 0]] [.sp (Sl 40 1 encP a cp hs), .sp (Many (HandQ kb) hs ms), .obj b (.cells #[.slice la ls.length lc] 30 (0, 0)), .sp X] (fun _ : Unit => vi (idxOf (phaseNot ls) ms)) (fun _ => [.sp (Sl 40 1 encP a cp hs), .sp (Many (HandQ kb) hs ms), .obj b (.cells #[.slice la ls.length lc] 30 (0, 0)), .sp X]) := by
  refine ct_intro Tryz.f224 19 Tryz.func224 rfl rfl rfl (fun E R => ?_)
  refine g_manyLen (Q := (HandQ kb)) (ps := hs) (xs := ms) 1 (by kernel_rfl) (fun hml1 => ?_)
  refine g_adv 12 [.c 26, .b 0, .c 7] 1 [(0, .slice a hs.length cp), (1, .func (.func 183) #[] #[pt b 0]), (7, vi (hs.length : Int)), (8, vi 0)] (by kernel_rfl) ?_
  refine g_loop' (fun (x_ : { x_ : Nat // match x_ with | i => i ≤ hs.length ∧ (ms.take i).any (phaseNot ls) = false }) => match x_.1 with | i => ([(0, .slice a hs.length cp), (1, .func (.func 183) #[] #[pt b 0]), (7, vi (hs.length : Int)), (8, vi (i : Int))], [.sp (Sl 40 1 encP a cp hs), .sp (Many (HandQ kb) hs ms), .obj b (.cells #[.slice la ls.length lc] 30 (0, 0)), .sp X, .sp R])) (fun (x_ : { x_ : Nat // match x_ with | i => i ≤ hs.length ∧ (ms.take i).any (phaseNot ls) = false }) => match x_.1 with | i => hs.length - i) ⟨0, by simp⟩ [0, 0, 0, 0, 0] (by kernel_rfl) (by kernel_rfl) (by kernel_rfl) ?_
  rintro ⟨i, hi1⟩
  have hi1 : i ≤ hs.length ∧ (ms.take i).any (phaseNot ls) = false := hi1
  obtain ⟨hi1_0, hi1_1⟩ := hi1
  refine g_adv 5 [.c 210, .c 211] 1 [(0, .slice a hs.length cp), (1, .func (.func 183) #[] #[pt b 0]), (7, vi (hs.length : Int)), (8, vi (i : Int)), (9, vb (decide ((i : Int) < (hs.length : Int))))] (by kernel_rfl) ?_
  refine g_cond (decide ((i : Int) < (hs.length : Int))) (by kernel_rfl) (fun h1 => ?_) (fun h1 => ?_)
  · have h1p : (i : Int) < (hs.length : Int) := of_decide_eq_true h1
    refine g_adv 13 [.o 3378 3, .c 3379, .b 1, .c 423] 2 [(0, .slice a hs.length cp), (1, .func (.func 183) #[] #[pt b 0]), (5, vi (i : Int)), (7, vi (hs.length : Int)), (8, vi (i : Int)), (11, .func (.func 183) #[] #[pt b 0]), (12, .slice a hs.length cp), (13, vi (i : Int))] (by kernel_rfl) ?_
    refine g_some 0 (Sl.reads (T := 40) (sz := 1) (enc := encP) (ad := a) (cap := cp) (l := hs)) (by kernel_rfl) (by omega) ?_
    rintro b1 o1 rfl
    refine g_op (by kernel_rfl) (ot_val (pt b1 (o1 + i * 1)) (run_ix b1 o1 hs.length cp (i : Int) 1 (by kernel_rfl) (by omega) (by omega)) ?_)
    obtain ⟨x1, hx1⟩ : ∃ x, hs[i]? = some x := ⟨_, List.getElem?_eq_getElem (by omega)⟩
    refine g_op (by kernel_rfl) (ot_loadS 0 b1 o1 i 0 (o1 + i * 1) (pt x1 0) (Sl.reads (T := 40) (sz := 1) (enc := encP) (ad := (some ⟨b1, o1, none⟩)) (cap := cp) (l := hs)) (by kernel_rfl) (by kernel_rfl) (by rfl) hx1 (by rfl) ?_)
    obtain ⟨x2, hx2⟩ : ∃ x, ms[i]? = some x := ⟨_, List.getElem?_eq_getElem (by omega)⟩
    refine g_out (Q := (HandQ kb)) (ps := hs) (xs := ms) (p := x1) (x := x2) 1 i (by kernel_rfl) hx1 hx2 ?_
    refine g_op (by kernel_rfl) (ot_call [0, 2, 2] (c_stm_Machine_every_1 x1 kb x2 b la lc ls X rl (by first | omega | assumption | (simp; done) | (simp; omega))) (by kernel_rfl) (by kernel_rfl) ?_)
    intro _
    refine g_adv 1 [] 1 [(0, .slice (some ⟨b1, o1, none⟩) hs.length cp), (1, .func (.func 183) #[] #[pt b 0]), (5, vi (i : Int)), (7, vi (hs.length : Int)), (8, vi (i : Int)), (16, vb (phaseNot ls x2))] (by kernel_rfl) ?_
    refine g_cond (phaseNot ls x2) (by kernel_rfl) (fun h2 => ?_) (fun h2 => ?_)
    · have h2p : phaseNot ls x2 = true := h2
      refine g_adv 6 [] 6 [(4, vi (i : Int))] (by kernel_rfl) ?_
      refine g_same (HandQ kb) hs ms x1 x2 i [0, 2] (by kernel_rfl) hx1 hx2 ?_
      refine g_post () [3, 0, 0, 0, 0] [vi (i : Int)] (.tmp (by kernel_rfl) .nil) (by first | (rw [idx_hit hi1_1 (by assumption) (by assumption)]; rfl) | (rw [idx_none hi1_1]; rfl)) (by kernel_rfl)
    · have h2p : phaseNot ls x2 = false := h2
      refine g_adv 4 [.o 423 1] 3 [(0, .slice (some ⟨b1, o1, none⟩) hs.length cp), (1, .func (.func 183) #[] #[pt b 0]), (7, vi (hs.length : Int)), (18, vi (wI ((i : Int) + 1)))] (by kernel_rfl) ?_
      refine g_val 18 (vi (wI ((i : Int) + 1))) (vi ((i + 1 : Nat) : Int)) (wI_eq (by omega) (by omega) (by omega)) (by kernel_rfl) ?_
      refine g_adv 2 [] 1 [(0, .slice (some ⟨b1, o1, none⟩) hs.length cp), (1, .func (.func 183) #[] #[pt b 0]), (7, vi (hs.length : Int)), (8, vi ((i + 1 : Nat) : Int))] (by kernel_rfl) ?_
      refine g_same (HandQ kb) hs ms x1 x2 i [0, 2] (by kernel_rfl) hx1 hx2 ?_
      refine g_round ⟨i + 1, by exact ⟨by omega, any_step hi1_1 (by assumption) (by assumption)⟩⟩ [3, 0, 0, 0, 0] (by first | omega | (simp; done) | (simp; omega)) (by kernel_rfl) (by kernel_rfl)
  · have h1p : ¬ ((i : Int) < (hs.length : Int)) := of_decide_eq_false h1
    obtain rfl : i = hs.length := by omega
    rw [hml1, List.take_length] at hi1_1
    refine g_adv 6 [] 5 [(4, vi (-1))] (by kernel_rfl) ?_
    refine g_post () [0, 0, 0, 0, 0] [vi (-1)] (.tmp (by kernel_rfl) .nil) (by first | (rw [idx_hit hi1_1 (by assumption) (by assumption)]; rfl) | (rw [idx_none hi1_1]; rfl)) (by kernel_rfl)

theorem c_contains_hands (kb : Nat) (a : Option Addr) (cp : Nat) (hs : List Nat) (ms : List Hand) (b : Nat) (la : Option Addr) (lc : Nat) (ls : List Int) (X : SP) (rl : Reads X 1 encI la ls) (hl : ls.length ≤ 1099511627776) (hms : ms.length ≤ 1099511627776) : Ct Tryz.prog 182 [.slice a hs.length cp, .func (.func 183) #[] #[pt b 0]] [.sp (Sl 40 1 encP a cp hs), .sp (Many (HandQ kb) hs ms), .obj b (.cells #[.slice la ls.length lc] 30 (0, 0)), .sp X] (fun _ : Unit => vb (ms.any (phaseNot ls))) (fun _ => [.sp (Sl 40 1 encP a cp hs), .sp (Many (HandQ kb) hs ms), .obj b (.cells #[.slice la ls.length lc] 30 (0, 0)), .sp X]) := by
  refine ct_intro Tryz.f182 9 Tryz.func182 rfl rfl rfl (fun E R => ?_)
  refine g_adv 8 [.o 6 2, .c 7] 1 [(5, .slice a hs.length cp), (6, .func (.func 183) #[] #[pt b 0])] (by kernel_rfl) ?_
  refine g_op (by kernel_rfl) (ot_call [0, 0, 0, 0] (c_index_hands kb a cp hs ms b la lc ls X rl (by first | omega | assumption | (simp; done) | (simp; omega)) (by first | omega | assumption | (simp; done) | (simp; omega))) (by kernel_rfl) (by kernel_rfl) ?_)
  intro _
  refine g_adv 4 [] 2 [(4, vb (decide (idxOf (phaseNot ls) ms ≥ 0)))] (by kernel_rfl) ?_
  refine g_post () [0, 0, 0, 0, 0] [vb (decide (idxOf (phaseNot ls) ms ≥ 0))] (.tmp (by kernel_rfl) .nil) (by rw [← idx_any]; rfl) (by kernel_rfl)

theorem c_stm_Machine_every (p : Nat) (m : Mach) (la : Option Addr) (lc : Nat) (ls : List Int) (X : SP) (rl : Reads X 1 encI la ls) (hl : ls.length ≤ 1099511627776) (hms : m.hands.length ≤ 1099511627776) : Ct Tryz.prog 139 [pt p 0, .slice la ls.length lc] [.sp (MachP p m), .sp X] (fun _ : Unit => vb (every m ls)) (fun _ => [.sp (MachP p m), .sp X]) := by
  refine ct_intro Tryz.f139 12 Tryz.func139 rfl rfl rfl (fun E R => ?_)
  refine g_adv 2 [.o 2 0, .c 3] 1 [(0, pt p 0), (1, .slice la ls.length lc)] (by kernel_rfl) ?_
  refine g_op (by kernel_rfl) (ot_new #[.slice la ls.length lc] 30 (by kernel_rfl) ?_)
  intro b1
  refine g_adv 7 [.o 6 3, .c 7] 2 [(3, pt b1 0), (7, pt p 1)] (by kernel_rfl) ?_
  refine g_open 1 (MachPF p m) (by kernel_rfl) ?_
  rintro ⟨kb1, a1, cp1, hs1⟩
  refine g_manyLen (Q := (HandQ kb1)) (ps := hs1) (xs := m.hands) 3 (by kernel_rfl) (fun hml1 => ?_)
  refine g_op (by kernel_rfl) (ot_load 0 p 1 (.slice a1 hs1.length cp1) (by kernel_rfl) (by kernel_rfl) ?_)
  refine g_adv 1 [.o 6 5] 1 [(8, .slice a1 hs1.length cp1), (9, .func (.func 183) #[] #[pt b1 0])] (by kernel_rfl) ?_
  refine g_op (by kernel_rfl) (ot_call [2, 2, 2, 2] (c_contains_hands kb1 a1 cp1 hs1 m.hands b1 la lc ls X rl (by first | omega | assumption | (simp; done) | (simp; omega)) (by first | omega | assumption | (simp; done) | (simp; omega))) (by kernel_rfl) (by kernel_rfl) ?_)
  intro _
  refine g_adv 4 [] 2 [(4, vb (!(m.hands.any (phaseNot ls))))] (by kernel_rfl) ?_
  refine g_close (MachPF p m) (kb1, a1, cp1, hs1) [4, 4, 0, 0] (by kernel_rfl) ?_
  refine g_post () [0, 1, 1] [vb (!(m.hands.any (phaseNot ls)))] (.tmp (by kernel_rfl) .nil) (by rfl) (by kernel_rfl)

theorem c_stm_Machine_Over (p : Nat) (m : Mach) (hms : m.hands.length ≤ 1099511627776) : Ct Tryz.prog 83 [pt p 0] [.sp (MachP p m)] (fun _ : Unit => vb (every m [6])) (fun _ => [.sp (MachP p m)]) := by
  refine ct_intro Tryz.f83 6 Tryz.func83 rfl rfl rfl (fun E R => ?_)
  refine g_adv 7 [.o 6 1, .c 7] 1 [(3, pt p 0)] (by kernel_rfl) ?_
  refine g_op (by kernel_rfl) (ot_lit 3 1 #[vi 6] (by kernel_rfl) ?_)
  intro b1
  refine g_lit 0 b1 #[vi 6] 3 1 encI (fun _ => rfl) [6] (by kernel_rfl) (by rfl) ?_
  refine g_op (by kernel_rfl) (ot_call [1, 0] (c_stm_Machine_every p m (some ⟨b1, 0, none⟩) 1 [6] (Sl 3 1 encI (some ⟨b1, 0, none⟩) 1 [6]) (Sl.reads (T := 3) (sz := 1) (enc := encI) (ad := (some ⟨b1, 0, none⟩)) (cap := 1) (l := [6])) (by first | omega | assumption | (simp; done) | (simp; omega)) (by first | omega | assumption | (simp; done) | (simp; omega))) (by kernel_rfl) (by kernel_rfl) ?_)
  intro _
  refine g_adv 3 [] 2 [(2, vb (every m [6]))] (by kernel_rfl) ?_
  refine g_post () [0, 1] [vb (every m [6])] (.tmp (by kernel_rfl) .nil) (rfl) (by kernel_rfl)

theorem c_stm_Machine_Quiet (p : Nat) (m : Mach) (hms : m.hands.length ≤ 1099511627776) : Ct Tryz.prog 84 [pt p 0] [.sp (MachP p m)] (fun _ : Unit => vb (every m [0, 5, 6])) (fun _ => [.sp (MachP p m)]) := by
  refine ct_intro Tryz.f84 6 Tryz.func84 rfl rfl rfl (fun E R => ?_)
  refine g_adv 7 [.o 6 1, .c 7] 1 [(3, pt p 0)] (by kernel_rfl) ?_
  refine g_op (by kernel_rfl) (ot_lit 3 3 #[vi 0, vi 5, vi 6] (by kernel_rfl) ?_)
  intro b1
  refine g_lit 0 b1 #[vi 0, vi 5, vi 6] 3 1 encI (fun _ => rfl) [0, 5, 6] (by kernel_rfl) (by rfl) ?_
  refine g_op (by kernel_rfl) (ot_call [1, 0] (c_stm_Machine_every p m (some ⟨b1, 0, none⟩) 3 [0, 5, 6] (Sl 3 1 encI (some ⟨b1, 0, none⟩) 3 [0, 5, 6]) (Sl.reads (T := 3) (sz := 1) (enc := encI) (ad := (some ⟨b1, 0, none⟩)) (cap := 3) (l := [0, 5, 6])) (by first | omega | assumption | (simp; done) | (simp; omega)) (by first | omega | assumption | (simp; done) | (simp; omega))) (by kernel_rfl) (by kernel_rfl) ?_)
  intro _
  refine g_adv 3 [] 2 [(2, vb (every m [0, 5, 6]))] (by kernel_rfl) ?_
  refine g_post () [0, 1] [vb (every m [0, 5, 6])] (.tmp (by kernel_rfl) .nil) (rfl) (by kernel_rfl)

theorem c_Run_easy (p : Nat) (m : Mach) (a : Option Addr) (cp : Nat) (l : List Int) (X : SP) (rl : Reads X 1 encI a l) (he : AllEasy m) (hn : ∀ x ∈ l, x ≠ (m.hands.length : Int)) (hl : l.length ≤ 1099511627776) (hms : m.hands.length ≤ 1099511627776) (h0 : 0 ≤ m.core.now) (h1 : m.core.now ≤ 1099511627776) : Ct Tryz.prog 85 [pt p 0, .slice a l.length cp] [.sp (MachP p m), .sp X] (fun _ : Unit => vi ((runs0 m l).2)) (fun _ => [.sp (MachP p ((runs0 m l).1)), .sp X]) := by
  refine ct_intro Tryz.f85 21 Tryz.func85 rfl rfl rfl (fun E R => ?_)
  refine g_adv 16 [.c 58, .b 0, .c 15] 1 [(0, pt p 0), (5, vi 0), (8, .slice a l.length cp), (9, vi (l.length : Int)), (10, vi 0)] (by kernel_rfl) ?_
  refine g_loop' (fun (x_ : { x_ : Nat × Mach × Int // match x_ with | (i, z, q) => i ≤ l.length ∧ (l.take i).foldl runF (m, 0) = (z, q) }) => match x_.1 with | (i, z, q) => ([(0, pt p 0), (5, vi q), (8, .slice a l.length cp), (9, vi (l.length : Int)), (10, vi (i : Int))], [.sp (MachP p z), .sp X, .sp R])) (fun (x_ : { x_ : Nat × Mach × Int // match x_ with | (i, z, q) => i ≤ l.length ∧ (l.take i).foldl runF (m, 0) = (z, q) }) => match x_.1 with | (i, z, q) => l.length - i) ⟨(0, m, 0), by exact ⟨by omega, rfl⟩⟩ [0, 0, 0] (by kernel_rfl) (by kernel_rfl) (by kernel_rfl) ?_
  rintro ⟨⟨i, z, q⟩, hi1⟩
  have hi1 : i ≤ l.length ∧ (l.take i).foldl runF (m, 0) = (z, q) := hi1
  obtain ⟨hi1_0, hi1_1⟩ := hi1
  have hr := runs_ok he (l.take i); rw [hi1_1] at hr; obtain ⟨r1, r2, r3, r4, r5⟩ := hr; dsimp only at r1 r2 r3 r4 r5; have r6 : (l.take i).length ≤ l.length := by simp; omega
  refine g_adv 5 [.c 466, .c 467] 1 [(0, pt p 0), (5, vi q), (8, .slice a l.length cp), (9, vi (l.length : Int)), (10, vi (i : Int)), (11, vb (decide ((i : Int) < (l.length : Int))))] (by kernel_rfl) ?_
  refine g_cond (decide ((i : Int) < (l.length : Int))) (by kernel_rfl) (fun h1 => ?_) (fun h1 => ?_)
  · have h1p : (i : Int) < (l.length : Int) := of_decide_eq_true h1
    refine g_adv 5 [.o 3736 0, .c 3737, .b 1, .c 935] 2 [(0, pt p 0), (5, vi q), (8, .slice a l.length cp), (9, vi (l.length : Int)), (10, vi (i : Int))] (by kernel_rfl) ?_
    refine g_some 1 rl (by kernel_rfl) (by omega) ?_
    rintro b1 o1 rfl
    refine g_op (by kernel_rfl) (ot_val (pt b1 (o1 + i * 1)) (run_ix b1 o1 l.length cp (i : Int) 1 (by kernel_rfl) (by omega) (by omega)) ?_)
    obtain ⟨x1, hx1⟩ : ∃ x, l[i]? = some x := ⟨_, List.getElem?_eq_getElem (by omega)⟩
    refine g_op (by kernel_rfl) (ot_loadS 1 b1 o1 i 0 (o1 + i * 1) (vi x1) rl (by kernel_rfl) (by kernel_rfl) (by rfl) hx1 (by rfl) ?_)
    refine g_adv 6 [.o 7474 2, .c 7475] 2 [(0, pt p 0), (5, vi q), (8, .slice (some ⟨b1, o1, none⟩) l.length cp), (9, vi (l.length : Int)), (10, vi (i : Int)), (14, pt p 0), (15, vi x1)] (by kernel_rfl) ?_
    refine g_op (by kernel_rfl) (ot_call [0] (c_Pick_easy p z x1 (by first | omega | assumption | (simp; done) | (simp; omega)) (by rw [r2]; exact hn _ (List.mem_of_getElem? hx1)) (by first | omega | assumption | (simp; done) | (simp; omega)) (by first | omega | assumption | (simp; done) | (simp; omega)) (by first | omega | assumption | (simp; done) | (simp; omega))) (by kernel_rfl) (by kernel_rfl) ?_)
    intro _
    refine g_adv 1 [] 1 [(0, pt p 0), (5, vi q), (8, .slice (some ⟨b1, o1, none⟩) l.length cp), (9, vi (l.length : Int)), (10, vi (i : Int)), (16, vb ((pick0 z x1).2))] (by kernel_rfl) ?_
    refine g_cond ((pick0 z x1).2) (by kernel_rfl) (fun h2 => ?_) (fun h2 => ?_)
    · have h2p : (pick0 z x1).2 = true := h2
      refine g_adv 3 [.o 14950 2] 1 [(0, pt p 0), (8, .slice (some ⟨b1, o1, none⟩) l.length cp), (9, vi (l.length : Int)), (10, vi (i : Int)), (18, vi (wI (q + 1)))] (by kernel_rfl) ?_
      refine g_val 18 (vi (wI (q + 1))) (vi (q + 1)) (wI_eq (by omega) (by omega) (by omega)) (by kernel_rfl) ?_
      refine g_adv 5 [.o 935 1] 3 [(0, pt p 0), (5, vi (q + 1)), (8, .slice (some ⟨b1, o1, none⟩) l.length cp), (9, vi (l.length : Int)), (19, vi (wI ((i : Int) + 1)))] (by kernel_rfl) ?_
      refine g_val 19 (vi (wI ((i : Int) + 1))) (vi ((i + 1 : Nat) : Int)) (wI_eq (by omega) (by omega) (by omega)) (by kernel_rfl) ?_
      refine g_adv 2 [] 1 [(0, pt p 0), (5, vi (q + 1)), (8, .slice (some ⟨b1, o1, none⟩) l.length cp), (9, vi (l.length : Int)), (10, vi ((i + 1 : Nat) : Int))] (by kernel_rfl) ?_
      refine g_round ⟨(i + 1, (pick0 z x1).1, q + 1), by exact ⟨by omega, by rw [run_step hi1_1 hx1]; simp [runF, *]⟩⟩ [0, 0, 0] (by first | omega | (simp; done) | (simp; omega)) (by kernel_rfl) (by kernel_rfl)
    · have h2p : (pick0 z x1).2 = false := h2
      refine g_adv 4 [.o 935 1] 3 [(0, pt p 0), (5, vi q), (8, .slice (some ⟨b1, o1, none⟩) l.length cp), (9, vi (l.length : Int)), (19, vi (wI ((i : Int) + 1)))] (by kernel_rfl) ?_
      refine g_val 19 (vi (wI ((i : Int) + 1))) (vi ((i + 1 : Nat) : Int)) (wI_eq (by omega) (by omega) (by omega)) (by kernel_rfl) ?_
      refine g_adv 2 [] 1 [(0, pt p 0), (5, vi q), (8, .slice (some ⟨b1, o1, none⟩) l.length cp), (9, vi (l.length : Int)), (10, vi ((i + 1 : Nat) : Int))] (by kernel_rfl) ?_
      refine g_round ⟨(i + 1, (pick0 z x1).1, q), by exact ⟨by omega, by rw [run_step hi1_1 hx1]; simp [runF, *]⟩⟩ [0, 0, 0] (by first | omega | (simp; done) | (simp; omega)) (by kernel_rfl) (by kernel_rfl)
  · have h1p : ¬ ((i : Int) < (l.length : Int)) := of_decide_eq_false h1
    obtain rfl : i = l.length := by omega
    rw [List.take_length] at hi1_1
    refine g_adv 7 [] 5 [(4, vi q)] (by kernel_rfl) ?_
    refine g_sp 0 (MachP p z) (MachP p ((runs0 m l).1)) (by kernel_rfl) (congrArg (fun z_ => MachP p z_) (show z = (runs0 m l).1 from by (unfold runs0; rw [hi1_1]))) ?_
    refine g_post () [0, 0, 0] [vi q] (.tmp (by kernel_rfl) .nil) (by (unfold runs0; rw [hi1_1]; rfl)) (by kernel_rfl)

end Go.Proofs
