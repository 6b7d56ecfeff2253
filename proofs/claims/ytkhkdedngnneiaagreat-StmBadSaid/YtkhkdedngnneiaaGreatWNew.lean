/- The walks of the layer new: printed by a program of this repo (wip/gen). -/
import Derived.Test.YtkhkdedngnneiaaGreatWShape
import Derived.Test.YtkhkdedngnneiaaGreatMNew
import Derived.Test.YtkhkdedngnneiaaGreatProg
namespace Go.Proofs
open Go Go.Sl Go.Lk
set_option maxRecDepth 20000
set_option linter.unusedVariables false

def CellsPF (p : Nat) (s : Cells) : (Option Addr) × Nat → List Chunk := fun (a, cp) => [.obj p (.cells #[.slice a s.w.length cp, vi s.count] 112 (0, 0)), .sp (Sl 3 1 encI a cp s.w)]
def CellsP (p : Nat) (s : Cells) : SP := ex (CellsPF p s)

def LanePF (p : Nat) (s : Lane) : (Option Addr) × Nat × (Option Addr) × Nat → List Chunk := fun (ha, hc, qa, qc) => [.obj p (.cells #[.slice ha s.holders.length hc, .slice qa s.queue.length qc] 179 (0, 0)), .sp (Sl 122 2 encA ha hc s.holders), .sp (Sl 122 2 encA qa qc s.queue)]
def LaneP (p : Nat) (s : Lane) : SP := ex (LanePF p s)

def TablePF (p : Nat) (s : Table) : (Option Addr) × Nat × (List Nat) × Nat → List Chunk := fun (a, cp, ps, mb) => [.obj p (.cells #[.slice a ps.length cp, vi s.most, .map (some mb)] 115 (0, 0)), .sp (Sl 118 1 encP a cp ps), .sp (Many LaneP ps s.spots), .sp (MapP mb vi s.pl)]
def TableP (p : Nat) (s : Table) : SP := ex (TablePF p s)

def DeskPF (p : Nat) (s : Desk) : Unit → List Chunk := fun _ => [.obj p (.cells #[vi s.given, vi s.most] 159 (0, 0))]
def DeskP (p : Nat) (s : Desk) : SP := ex (DeskPF p s)

def WordsP (b : Nat) (m : List (Int × Int)) : SP := MapP b vi m

def NapsPF (p : Nat) (s : Naps) : Nat × (List (Int × Nat)) → List Chunk := fun (mb, bs) => [.prp (bs.map Prod.fst = s.m.map Prod.fst), .obj p (.cells #[.map (some mb)] 129 (0, 0)), .sp (MapP mb encM bs), .sp (Many WordsP (bs.map Prod.snd) (s.m.map Prod.snd))]
def NapsP (p : Nat) (s : Naps) : SP := ex (NapsPF p s)

def EvPF (r : EvR) (e : Ev) : Unit → List Chunk := fun _ => [.prp (r.e = e), .sp (Sl 64 2 encA r.ra r.rc e.reads), .sp (Sl 64 2 encA r.wa r.wc e.writes), .sp (Sl 3 1 encI r.ga r.gc e.regs)]
def EvP (r : EvR) (e : Ev) : SP := ex (EvPF r e)

def StoryPF (p : Nat) (s : Story) : (Option Addr) × Nat × (List EvR) → List Chunk := fun (a, cp, es) => [.obj p (.cells #[.slice a es.length cp] 110 (0, 0)), .sp (Sl 50 10 encE a cp es), .sp (Many EvP es s.all)]
def StoryP (p : Nat) (s : Story) : SP := ex (StoryPF p s)

def PartsPF (p : Nat) (s : Parts) : Nat × Nat × Nat × Nat × Nat → List Chunk := fun (cb, tb, db, nb, sb) => [.obj p (.cells #[vi s.conf.regions, vi s.conf.objects, vi s.conf.stripes, vi s.conf.width, vi s.conf.threads, vi s.conf.slots, vi s.conf.regs, vi s.conf.locks, vi s.conf.undo, vi s.conf.escalate, vi s.conf.tickets, vi s.conf.policy, pt cb 0, pt tb 0, pt db 0, pt nb 0, pt sb 0] 94 (0, 0)), .sp (CellsP cb s.cells), .sp (TableP tb s.table), .sp (DeskP db s.desk), .sp (NapsP nb s.naps), .sp (StoryP sb s.story)]
def PartsP (p : Nat) (s : Parts) : SP := ex (PartsPF p s)

def CorePF (p : Nat) (s : Core) : Nat × (Option Addr) × Nat × (Option Addr) × Nat × (Option Addr) × Nat → List Chunk := fun (pb, ta, tc, aa, ac, da, dc) => [.obj p (.cells #[pt pb 0, .slice ta s.tickets.length tc, .slice aa s.active.length ac, .slice da s.dooms.length dc, vi s.now] 36 (0, 0)), .sp (PartsP pb s.parts), .sp (Sl 3 1 encI ta tc s.tickets), .sp (Sl 4 1 encB aa ac s.active), .sp (Sl 27 1 encI da dc s.dooms)]
def CoreP (p : Nat) (s : Core) : SP := ex (CorePF p s)

theorem c_cell_New (n : Int) (h0 : 0 ≤ n) (h1 : n ≤ 65536) : Ct Tryz.prog 94 [vi n] [] (fun x : Nat => match x with | p => .tuple #[pt p 0, vi 0]) (fun x => match x with | p => [.sp (CellsP p (newCells n))]) := by
  refine ct_intro Tryz.f94 14 Tryz.func94 rfl rfl rfl (fun E R => ?_)
  refine g_adv 11 [.o 12 3, .c 13, .c 7] 1 [(0, vi n), (6, vb (decide (n < 0)))] (by kernel_rfl) ?_
  refine g_bool 6 (decide (n < 0)) (by kernel_rfl) (fun h1 => ?_) (fun h1 => ?_)
  · have h1p : n < 0 := of_decide_eq_true h1
    (exfalso; omega)
  · have h1p : ¬ (n < 0) := of_decide_eq_false h1
    refine g_adv 4 [] 1 [(0, vi n), (9, vb (decide (n > 65536)))] (by kernel_rfl) ?_
    refine g_cond (decide (n > 65536)) (by kernel_rfl) (fun h2 => ?_) (fun h2 => ?_)
    · have h2p : n > 65536 := of_decide_eq_true h2
      (exfalso; omega)
    · have h2p : ¬ (n > 65536) := of_decide_eq_false h2
      refine g_adv 4 [.o 14 1, .c 15] 2 [(10, vi n)] (by kernel_rfl) ?_
      refine g_op (by kernel_rfl) (ot_makeZ n n.toNat encI (0 : Int) 3 1 8 #[vi 0] (by kernel_rfl) (by omega) (fun _ => rfl) rfl (by omega) (by omega) ?_)
      intro b1
      refine g_adv 1 [.o 14 3] 1 [(12, .agg #[.slice (some ⟨b1, 0, none⟩) ((List.replicate n.toNat (0 : Int)).length) n.toNat, vi 0])] (by kernel_rfl) ?_
      refine g_op (by kernel_rfl) (ot_new #[.slice (some ⟨b1, 0, none⟩) ((List.replicate n.toNat (0 : Int)).length) n.toNat, vi 0] 112 (by kernel_rfl) ?_)
      intro b2
      refine g_adv 4 [] 2 [(2, pt b2 0), (3, vi 0)] (by kernel_rfl) ?_
      refine g_close (CellsPF b2 (newCells n)) ((some ⟨b1, 0, none⟩), n.toNat) [0, 0] (by kernel_rfl) ?_
      refine g_post b2 [0, 0] [pt b2 0, vi 0] (.tmp (by kernel_rfl) (.tmp (by kernel_rfl) .nil)) (rfl) (by kernel_rfl)

theorem c_cell_Of (n : Int) (a : Option Addr) (cp : Nat) (l : List Int) (X : SP) (rl : Reads X 1 encI a l) (h0 : 0 ≤ n) (h1 : n ≤ 65536) (hl : l.length ≤ n.toNat) : Ct Tryz.prog 46 [vi n, .slice a l.length cp] [.sp X] (fun x : Nat => match x with | p => .tuple #[pt p 0, vi 0]) (fun x => match x with | p => [.sp (CellsP p (filled n l)), .sp X]) := by
  refine ct_intro Tryz.f46 23 Tryz.func46 rfl rfl rfl (fun E R => ?_)
  refine g_adv 8 [.o 6 1, .c 7] 1 [(1, .slice a l.length cp), (9, vi n)] (by kernel_rfl) ?_
  refine g_op (by kernel_rfl) (ot_call [] (c_cell_New n (by first | omega | assumption | (simp; done) | (simp; omega)) (by first | omega | assumption | (simp; done) | (simp; omega))) (by kernel_rfl) (by kernel_rfl) ?_)
  intro p1
  refine g_adv 17 [.o 58 3, .c 15] 2 [(1, .slice a l.length cp), (6, pt p1 0), (7, vi 0), (17, pt p1 0)] (by kernel_rfl) ?_
  refine g_open 0 (CellsPF p1 (newCells n)) (by kernel_rfl) ?_
  rintro ⟨a1, cp1⟩
  refine g_op (by kernel_rfl) (ot_load 0 p1 0 (.slice a1 ((newCells n).w.length) cp1) (by kernel_rfl) (by kernel_rfl) ?_)
  refine g_adv 1 [.o 58 5] 1 [(6, pt p1 0), (7, vi 0), (18, .slice a1 ((newCells n).w.length) cp1), (19, .slice a l.length cp)] (by kernel_rfl) ?_
  refine g_op (by kernel_rfl) (ot_copy (T := 3) (sz := 1) (enc := encI) (ad := a1) (cap := cp1) (l := ((newCells n).w)) (ys := l) (ya := a) (yc := cp) (Y := X) 1 2 rl (by kernel_rfl) (by kernel_rfl) (by kernel_rfl) (fun _ => rfl) (by simp [newCells]; omega) ?_)
  have hn1 : (l ++ ((newCells n).w).drop l.length).length = ((newCells n).w).length := by (have ht : l.length ≤ ((newCells n).w).length := by simp [newCells]; omega); rw [List.length_append, List.length_drop]; omega
  refine g_adv 9 [] 2 [(4, pt p1 0), (5, vi 0)] (by kernel_rfl) ?_
  refine g_cells 0 p1 #[.slice a1 ((newCells n).w.length) cp1, vi ((newCells n).count)] #[.slice a1 ((l ++ ((newCells n).w).drop l.length).length) cp1, vi ((newCells n).count)] 112 (by kernel_rfl) (by first | rfl | (simp; done) | (simp [hn1]; done)) ?_
  refine g_close (CellsPF p1 ({ (newCells n) with w := l ++ ((newCells n).w).drop l.length })) (a1, cp1) [0, 0] (by kernel_rfl) ?_
  refine g_sp 0 (CellsP p1 ({ (newCells n) with w := l ++ ((newCells n).w).drop l.length })) (CellsP p1 (filled n l)) (by kernel_rfl) (congrArg (fun z_ => CellsP p1 z_) (show { (newCells n) with w := l ++ ((newCells n).w).drop l.length } = (filled n l) from by simp [filled, newCells])) ?_
  refine g_post p1 [0, 0, 0] [pt p1 0, vi 0] (.tmp (by kernel_rfl) (.tmp (by kernel_rfl) .nil)) (rfl) (by kernel_rfl)

theorem c_lane_New  : Ct Tryz.prog 95 [] [] (fun x : Nat => match x with | p => pt p 0) (fun x => match x with | p => [.sp (LaneP p newLane)]) := by
  refine ct_intro Tryz.f95 3 Tryz.func95 rfl rfl rfl (fun E R => ?_)
  refine g_adv 7 [.o 6 1, .c 7] 1 [(1, .agg #[.slice none 0 0, .slice none 0 0])] (by kernel_rfl) ?_
  refine g_op (by kernel_rfl) (ot_new #[.slice none 0 0, .slice none 0 0] 179 (by kernel_rfl) ?_)
  intro b1
  refine g_adv 3 [] 2 [(0, pt b1 0)] (by kernel_rfl) ?_
  refine g_nil 122 2 encA (fun _ => rfl) ?_
  refine g_nil 122 2 encA (fun _ => rfl) ?_
  refine g_close (LanePF b1 newLane) (none, 0, none, 0) [2, 0, 0] (by kernel_rfl) ?_
  refine g_post b1 [0, 0] [pt b1 0] (.tmp (by kernel_rfl) .nil) (rfl) (by kernel_rfl)

theorem c_table_New (n : Int) (m : Int) (h0 : 1 ≤ n) (h1 : n ≤ 10000) (h2 : 1 ≤ m) (h3 : m ≤ 4096) : Ct Tryz.prog 48 [vi n, vi m] [] (fun x : Nat => match x with | p => .tuple #[pt p 0, vi 0]) (fun x => match x with | p => [.sp (TableP p (newTable n m))]) := by
  refine ct_intro Tryz.f48 41 Tryz.func48 rfl rfl rfl (fun E R => ?_)
  refine g_adv 11 [.o 12 3, .c 13, .c 7] 1 [(0, vi n), (1, vi m), (9, vb (decide (n < 1)))] (by kernel_rfl) ?_
  refine g_bool 9 (decide (n < 1)) (by kernel_rfl) (fun h1 => ?_) (fun h1 => ?_)
  · have h1p : n < 1 := of_decide_eq_true h1
    (exfalso; omega)
  · have h1p : ¬ (n < 1) := of_decide_eq_false h1
    refine g_adv 4 [.o 12 7] 1 [(0, vi n), (1, vi m), (13, vb (decide (n > 10000)))] (by kernel_rfl) ?_
    refine g_bool 13 (decide (n > 10000)) (by kernel_rfl) (fun h2 => ?_) (fun h2 => ?_)
    · have h2p : n > 10000 := of_decide_eq_true h2
      (exfalso; omega)
    · have h2p : ¬ (n > 10000) := of_decide_eq_false h2
      refine g_adv 4 [.o 12 11] 1 [(0, vi n), (1, vi m), (17, vb (decide (m < 1)))] (by kernel_rfl) ?_
      refine g_bool 17 (decide (m < 1)) (by kernel_rfl) (fun h3 => ?_) (fun h3 => ?_)
      · have h3p : m < 1 := of_decide_eq_true h3
        (exfalso; omega)
      · have h3p : ¬ (m < 1) := of_decide_eq_false h3
        refine g_adv 4 [] 1 [(0, vi n), (1, vi m), (20, vb (decide (m > 4096)))] (by kernel_rfl) ?_
        refine g_cond (decide (m > 4096)) (by kernel_rfl) (fun h4 => ?_) (fun h4 => ?_)
        · have h4p : m > 4096 := of_decide_eq_true h4
          (exfalso; omega)
        · have h4p : ¬ (m > 4096) := of_decide_eq_false h4
          refine g_adv 4 [.o 14 1, .c 15] 2 [(0, vi n), (21, vi m)] (by kernel_rfl) ?_
          refine g_op (by kernel_rfl) (ot_mapP vi (by kernel_rfl) ?_)
          intro m1
          refine g_adv 1 [.o 14 3] 1 [(0, vi n), (23, .agg #[.slice none 0 0, vi m, .map (some m1)])] (by kernel_rfl) ?_
          refine g_op (by kernel_rfl) (ot_new #[.slice none 0 0, vi m, .map (some m1)] 115 (by kernel_rfl) ?_)
          intro b1
          refine g_adv 9 [.c 122, .b 0, .c 31] 2 [(6, pt b1 0), (25, vi n), (26, vi 0)] (by kernel_rfl) ?_
          refine g_nil 118 1 encP (fun _ => rfl) ?_
          refine g_many0 LaneP ?_
          refine g_loop' (fun (x : { x : Nat × (Option Addr) × Nat × (List Nat) // match x with | (i, a, cp, ps) => (i : Int) ≤ n ∧ ps.length = i }) => match x.1 with | (i, a, cp, ps) => ([(6, pt b1 0), (25, vi n), (26, vi (i : Int))], [.obj b1 (.cells #[.slice a ps.length cp, vi m, .map (some m1)] 115 (0, 0)), .sp (Sl 118 1 encP a cp ps), .sp (MapP m1 vi []), .sp (Many LaneP ps (List.replicate i newLane)), .sp R])) (fun (x : { x : Nat × (Option Addr) × Nat × (List Nat) // match x with | (i, a, cp, ps) => (i : Int) ≤ n ∧ ps.length = i }) => match x.1 with | (i, a, cp, ps) => n.toNat - i) ⟨(0, none, 0, []), by exact ⟨by omega, rfl⟩⟩ [2, 1, 1, 0, 0] (by kernel_rfl) (by kernel_rfl) (by kernel_rfl) ?_
          rintro ⟨⟨i, a, cp, ps⟩, hi1⟩
          have hi1 : (i : Int) ≤ n ∧ ps.length = i := hi1
          obtain ⟨hi1_0, hi1_1⟩ := hi1
          refine g_adv 5 [.c 978, .c 979] 1 [(6, pt b1 0), (25, vi n), (26, vi (i : Int)), (27, vb (decide ((i : Int) < n)))] (by kernel_rfl) ?_
          refine g_cond (decide ((i : Int) < n)) (by kernel_rfl) (fun h5 => ?_) (fun h5 => ?_)
          · have h5p : (i : Int) < n := of_decide_eq_true h5
            refine g_adv 3 [.c 3916, .b 1, .c 1959] 2 [(6, pt b1 0), (25, vi n), (26, vi (i : Int))] (by kernel_rfl) ?_
            refine d_start (by kernel_rfl) (by kernel_rfl) ?_
            refine d_run1 [(0, pt b1 0), (1, pt b1 0), (2, pt b1 0), (3, pt b1 0), (4, .slice a ps.length cp)] 5 (by kernel_rfl) (.plainN 4 (by kernel_rfl) (.one _ _ (evOK_loadC 0 b1 0 _ (by kernel_rfl) (by kernel_rfl)) .nil)) (by kernel_rfl) (ot_call [] (c_lane_New) (by kernel_rfl) (by kernel_rfl) ?_)
            intro p1
            refine d_run1 [(6, .agg #[pt p1 0])] 7 (by kernel_rfl) (.plainN 1 (by kernel_rfl) (.done _ _ (by kernel_rfl) (.plainN 4 (by kernel_rfl) (.one _ _ (evOK_loadC 1 b1 0 _ (by kernel_rfl) (by kernel_rfl)) .nil)))) (by kernel_rfl) (ot_lit 118 1 #[pt p1 0] (by kernel_rfl) ?_)
            intro b2
            refine d_lit 0 b2 #[pt p1 0] 118 1 encP (fun _ => rfl) [p1] (by kernel_rfl) (by rfl) ?_
            refine d_run1 [] 8 (by kernel_rfl) (.done _ _ (by kernel_rfl) (.plainN 1 (by kernel_rfl) (.done _ _ (by kernel_rfl) (.plainN 4 (by kernel_rfl) (.one _ _ (evOK_loadC 2 b1 0 _ (by kernel_rfl) (by kernel_rfl)) .nil))))) (by kernel_rfl) (ot_append (T := 118) (sz := 1) (enc := encP) (ad := a) (cap := cp) (l := ps) (ys := [p1]) (ya := (some ⟨b2, 0, none⟩)) (yc := 1) (Y := (Sl 118 1 encP (some ⟨b2, 0, none⟩) 1 [p1])) 3 0 8 Sl.reads (by kernel_rfl) (by kernel_rfl) (by kernel_rfl) (fun _ => rfl) (by first | omega | (simp; omega) | (simp at *; omega)) (by first | omega | (simp; omega) | (simp at *; omega)) ?_)
            intro a1 c1
            refine d_done [4] (by kernel_rfl) ?_
            refine d_run1 [(9, pt b1 0), (10, pt b1 0)] 11 (by kernel_rfl) (.plainN 2 (by kernel_rfl) (.done _ _ (by kernel_rfl) (.done _ _ (by kernel_rfl) (.plainN 1 (by kernel_rfl) (.done _ _ (by kernel_rfl) (.plainN 4 (by kernel_rfl) (.done _ _ (by kernel_rfl) .nil))))))) (by kernel_rfl) (ot_store 2 b1 0 [.slice a1 ((ps ++ [p1]).length) c1] (by kernel_rfl) (by kernel_rfl) ?_)
            refine d_end [] [(6, pt b1 0), (25, vi n), (26, vi (i : Int))] (by kernel_rfl) (.done _ _ (by kernel_rfl) (.plainN 2 (by kernel_rfl) (.done _ _ (by kernel_rfl) (.done _ _ (by kernel_rfl) (.plainN 1 (by kernel_rfl) (.done _ _ (by kernel_rfl) (.plainN 4 (by kernel_rfl) (.done _ _ (by kernel_rfl) .nil)))))))) (by kernel_rfl) ?_
            refine g_adv 3 [.o 1959 1] 2 [(6, pt b1 0), (25, vi n), (39, vi (wI ((i : Int) + 1)))] (by kernel_rfl) ?_
            refine g_val 39 (vi (wI ((i : Int) + 1))) (vi ((i + 1 : Nat) : Int)) (wI_eq (by omega) (by omega) (by omega)) (by kernel_rfl) ?_
            refine g_adv 2 [] 1 [(6, pt b1 0), (25, vi n), (26, vi ((i + 1 : Nat) : Int))] (by kernel_rfl) ?_
            refine g_snoc LaneP ps (List.replicate i newLane) p1 newLane [1, 4] (by kernel_rfl) ?_
            refine g_sp 0 (Many LaneP (ps ++ [p1]) ((List.replicate i newLane) ++ [newLane])) (Many LaneP (ps ++ [p1]) (List.replicate (i + 1) newLane)) (by kernel_rfl) (congrArg (fun z_ => Many LaneP (ps ++ [p1]) z_) (show (List.replicate i newLane) ++ [newLane] = (List.replicate (i + 1) newLane) from by simp [List.replicate_succ'])) ?_
            refine g_round ⟨(i + 1, a1, c1, ps ++ [p1]), by exact ⟨by omega, by simp; omega⟩⟩ [2, 2, 2, 0, 1] (by first | omega | (simp; done) | (simp; omega)) (by kernel_rfl) (by kernel_rfl)
          · have h5p : ¬ ((i : Int) < n) := of_decide_eq_false h5
            obtain rfl : i = n.toNat := by omega
            refine g_adv 8 [] 5 [(4, pt b1 0), (5, vi 0)] (by kernel_rfl) ?_
            refine g_close (TablePF b1 (newTable n m)) (a, cp, ps, m1) [0, 0, 1, 0] (by kernel_rfl) ?_
            refine g_post b1 [0, 0] [pt b1 0, vi 0] (.tmp (by kernel_rfl) (.tmp (by kernel_rfl) .nil)) (rfl) (by kernel_rfl)

theorem c_birth_New (n : Int) (h0 : 1 ≤ n) (h1 : n ≤ 10000) : Ct Tryz.prog 50 [vi n] [] (fun x : Nat => match x with | p => .tuple #[pt p 0, vi 0]) (fun x => match x with | p => [.sp (DeskP p (Desk.mk 0 n))]) := by
  refine ct_intro Tryz.f50 13 Tryz.func50 rfl rfl rfl (fun E R => ?_)
  refine g_adv 11 [.o 12 3, .c 13, .c 7] 1 [(0, vi n), (6, vb (decide (n < 1)))] (by kernel_rfl) ?_
  refine g_bool 6 (decide (n < 1)) (by kernel_rfl) (fun h1 => ?_) (fun h1 => ?_)
  · have h1p : n < 1 := of_decide_eq_true h1
    (exfalso; omega)
  · have h1p : ¬ (n < 1) := of_decide_eq_false h1
    refine g_adv 4 [] 1 [(0, vi n), (9, vb (decide (n > 10000)))] (by kernel_rfl) ?_
    refine g_cond (decide (n > 10000)) (by kernel_rfl) (fun h2 => ?_) (fun h2 => ?_)
    · have h2p : n > 10000 := of_decide_eq_true h2
      (exfalso; omega)
    · have h2p : ¬ (n > 10000) := of_decide_eq_false h2
      refine g_adv 5 [.o 14 2, .c 15] 2 [(11, .agg #[vi 0, vi n])] (by kernel_rfl) ?_
      refine g_op (by kernel_rfl) (ot_new #[vi 0, vi n] 159 (by kernel_rfl) ?_)
      intro b1
      refine g_adv 4 [] 2 [(2, pt b1 0), (3, vi 0)] (by kernel_rfl) ?_
      refine g_close (DeskPF b1 (Desk.mk 0 n)) () [0] (by kernel_rfl) ?_
      refine g_post b1 [0, 0] [pt b1 0, vi 0] (.tmp (by kernel_rfl) (.tmp (by kernel_rfl) .nil)) (rfl) (by kernel_rfl)

theorem c_nap_New  : Ct Tryz.prog 51 [] [] (fun x : Nat => match x with | p => pt p 0) (fun x => match x with | p => [.sp (NapsP p (Naps.mk []))]) := by
  refine ct_intro Tryz.f51 4 Tryz.func51 rfl rfl rfl (fun E R => ?_)
  refine g_adv 6 [.o 6 0, .c 7] 1 [] (by kernel_rfl) ?_
  refine g_op (by kernel_rfl) (ot_mapP encM (by kernel_rfl) ?_)
  intro m1
  refine g_adv 1 [.o 6 2] 1 [(2, .agg #[.map (some m1)])] (by kernel_rfl) ?_
  refine g_op (by kernel_rfl) (ot_new #[.map (some m1)] 129 (by kernel_rfl) ?_)
  intro b1
  refine g_adv 3 [] 2 [(0, pt b1 0)] (by kernel_rfl) ?_
  refine g_many0 WordsP ?_
  refine g_add (p := ([] : List (Int × Nat)).map Prod.fst = (Naps.mk []).m.map Prod.fst) (by first | assumption | omega | simp_all) ?_
  refine g_close (NapsPF b1 (Naps.mk [])) (m1, []) [0, 1, 1, 0] (by kernel_rfl) ?_
  refine g_post b1 [0, 0] [pt b1 0] (.tmp (by kernel_rfl) .nil) (rfl) (by kernel_rfl)

theorem c_story_New  : Ct Tryz.prog 52 [] [] (fun x : Nat => match x with | p => pt p 0) (fun x => match x with | p => [.sp (StoryP p (Story.mk []))]) := by
  refine ct_intro Tryz.f52 2 Tryz.func52 rfl rfl rfl (fun E R => ?_)
  refine g_adv 6 [.o 6 0, .c 7] 1 [] (by kernel_rfl) ?_
  refine g_op (by kernel_rfl) (ot_new #[.slice none 0 0] 110 (by kernel_rfl) ?_)
  intro b1
  refine g_adv 3 [] 2 [(0, pt b1 0)] (by kernel_rfl) ?_
  refine g_nil 50 10 encE (fun _ => rfl) ?_
  refine g_many0 EvP ?_
  refine g_close (StoryPF b1 (Story.mk [])) (none, 0, []) [2, 1, 0] (by kernel_rfl) ?_
  refine g_post b1 [0, 0] [pt b1 0] (.tmp (by kernel_rfl) .nil) (rfl) (by kernel_rfl)

theorem c_core_New (c : Conf) (a : Option Addr) (cp : Nat) (l : List Int) (X : SP) (rl : Reads X 1 encI a l) (hk : c.Ok) (hw : (l.length : Int) = words c) : Ct Tryz.prog 9 [.agg #[vi c.regions, vi c.objects, vi c.stripes, vi c.width, vi c.threads, vi c.slots, vi c.regs, vi c.locks, vi c.undo, vi c.escalate, vi c.tickets, vi c.policy], .slice a l.length cp] [.sp X] (fun x : Nat => match x with | p => .tuple #[pt p 0, vi 0]) (fun x => match x with | p => [.sp (CoreP p (newCore c l)), .sp X]) := by
  refine ct_intro Tryz.f9 71 Tryz.func9 rfl rfl rfl (fun E R => ?_)
  have hz := hk.sizes; have hq1 := hk.locks; have hq2 := hk.tickets; have hq3 := hk.threads
  refine g_adv 2 [.o 2 0, .c 3] 1 [(0, .agg #[vi c.regions, vi c.objects, vi c.stripes, vi c.width, vi c.threads, vi c.slots, vi c.regs, vi c.locks, vi c.undo, vi c.escalate, vi c.tickets, vi c.policy]), (1, .slice a l.length cp)] (by kernel_rfl) ?_
  refine g_op (by kernel_rfl) (ot_new #[vi c.regions, vi c.objects, vi c.stripes, vi c.width, vi c.threads, vi c.slots, vi c.regs, vi c.locks, vi c.undo, vi c.escalate, vi c.tickets, vi c.policy] 25 (by kernel_rfl) ?_)
  intro b1
  refine g_adv 6 [.o 12 0, .c 13, .c 7] 2 [(1, .slice a l.length cp), (2, pt b1 0)] (by kernel_rfl) ?_
  refine g_op (by kernel_rfl) (ot_loadA 0 b1 0 [vi c.regions, vi c.objects, vi c.stripes, vi c.width, vi c.threads, vi c.slots, vi c.regs, vi c.locks, vi c.undo, vi c.escalate, vi c.tickets, vi c.policy] (by kernel_rfl) (by kernel_rfl) ?_)
  refine g_op (by kernel_rfl) (ot_call [] (c_shape_Check c) (by kernel_rfl) (by kernel_rfl) ?_)
  intro _
  refine g_adv 2 [.o 12 4] 1 [(1, .slice a l.length cp), (2, pt b1 0), (14, vb (check c != 0))] (by kernel_rfl) ?_
  refine g_bool 14 (check c != 0) (by kernel_rfl) (fun h1 => ?_) (fun h1 => ?_)
  · have h1p : check c ≠ 0 := bne_iff_ne.1 h1
    exact absurd (check_of hk) h1p
  · have h1p : check c = 0 := (by simpa using h1)
    refine g_adv 2 [.o 12 6] 1 [(1, .slice a l.length cp), (2, pt b1 0), (14, vb false), (16, vi (l.length : Int))] (by kernel_rfl) ?_
    refine g_op (by kernel_rfl) (ot_loadA 0 b1 0 [vi c.regions, vi c.objects, vi c.stripes, vi c.width, vi c.threads, vi c.slots, vi c.regs, vi c.locks, vi c.undo, vi c.escalate, vi c.tickets, vi c.policy] (by kernel_rfl) (by kernel_rfl) ?_)
    refine g_op (by kernel_rfl) (ot_call [] (c_shape_Words c) (by kernel_rfl) (by kernel_rfl) ?_)
    intro _
    refine g_adv 3 [] 1 [(1, .slice a l.length cp), (2, pt b1 0), (20, vb ((l.length : Int) != words c))] (by kernel_rfl) ?_
    refine g_cond ((l.length : Int) != words c) (by kernel_rfl) (fun h2 => ?_) (fun h2 => ?_)
    · have h2p : (l.length : Int) ≠ words c := bne_iff_ne.1 h2
      exact absurd hw h2p
    · have h2p : (l.length : Int) = words c := (by simpa using h2)
      refine g_adv 3 [.o 14 0, .c 15] 2 [(1, .slice a l.length cp), (2, pt b1 0)] (by kernel_rfl) ?_
      refine g_op (by kernel_rfl) (ot_loadA 0 b1 0 [vi c.regions, vi c.objects, vi c.stripes, vi c.width, vi c.threads, vi c.slots, vi c.regs, vi c.locks, vi c.undo, vi c.escalate, vi c.tickets, vi c.policy] (by kernel_rfl) (by kernel_rfl) ?_)
      refine g_op (by kernel_rfl) (ot_call [] (c_shape_Cells c) (by kernel_rfl) (by kernel_rfl) ?_)
      intro _
      refine g_adv 1 [.o 14 3] 1 [(2, pt b1 0), (23, vi (cellsN c)), (24, .slice a l.length cp)] (by kernel_rfl) ?_
      refine g_op (by kernel_rfl) (ot_call [1] (c_cell_Of (cellsN c) a cp l X rl (by first | omega | assumption | (simp; done) | (simp; omega)) (by first | omega | assumption | (simp; done) | (simp; omega)) (by first | omega | assumption | (simp; done) | (simp; omega))) (by kernel_rfl) (by kernel_rfl) ?_)
      intro p1
      refine g_adv 15 [.c 62, .c 63] 2 [(2, pt b1 0), (6, pt p1 0)] (by kernel_rfl) ?_
      refine d_start (by kernel_rfl) (by kernel_rfl) ?_
      refine d_run1 [(0, .agg #[vi c.regions, vi c.objects, vi c.stripes, vi c.width, vi c.threads, vi c.slots, vi c.regs, vi c.locks, vi c.undo, vi c.escalate, vi c.tickets, vi c.policy]), (2, pt b1 7), (3, vi c.locks)] 1 (by kernel_rfl) (.one _ _ (evOK_loadG 2 b1 0 [vi c.regions, vi c.objects, vi c.stripes, vi c.width, vi c.threads, vi c.slots, vi c.regs, vi c.locks, vi c.undo, vi c.escalate, vi c.tickets, vi c.policy] (by kernel_rfl) (by kernel_rfl)) (.plainN 1 (by kernel_rfl) (.one _ _ (evOK_loadC 2 b1 7 _ (by kernel_rfl) (by kernel_rfl)) .nil))) (by kernel_rfl) (ot_call [] (c_shape_Nodes c) (by kernel_rfl) (by kernel_rfl) ?_)
      intro _
      refine d_done [0] (by kernel_rfl) ?_
      refine d_run1 [] 4 (by kernel_rfl) (.done _ _ (by kernel_rfl) (.done _ _ (by kernel_rfl) (.plainN 1 (by kernel_rfl) (.one _ _ (evOK_loadC 2 b1 7 _ (by kernel_rfl) (by kernel_rfl)) .nil)))) (by kernel_rfl) (ot_call [] (c_table_New (nodes c) c.locks (by first | omega | assumption | (simp; done) | (simp; omega)) (by first | omega | assumption | (simp; done) | (simp; omega)) (by first | omega | assumption | (simp; done) | (simp; omega)) (by first | omega | assumption | (simp; done) | (simp; omega))) (by kernel_rfl) (by kernel_rfl) ?_)
      intro p2
      refine d_done [3] (by kernel_rfl) ?_
      refine d_end [(5, .tuple #[pt p2 0, vi 0]), (6, pt p2 0), (7, vi 0), (8, pt p2 0), (9, vi 0)] [(2, pt b1 0), (6, pt p1 0), (7, vi 0), (8, pt p2 0)] (by kernel_rfl) (.plainN 5 (by kernel_rfl) (.done _ _ (by kernel_rfl) (.done _ _ (by kernel_rfl) (.done _ _ (by kernel_rfl) (.plainN 1 (by kernel_rfl) (.done _ _ (by kernel_rfl) .nil)))))) (by kernel_rfl) ?_
      refine g_adv 11 [.o 254 1, .c 255] 1 [(2, pt b1 0), (6, pt p1 0), (8, pt p2 0), (43, pt b1 10)] (by kernel_rfl) ?_
      refine g_op (by kernel_rfl) (ot_load 3 b1 10 (vi c.tickets) (by kernel_rfl) (by kernel_rfl) ?_)
      refine g_op (by kernel_rfl) (ot_call [] (c_birth_New c.tickets (by first | omega | assumption | (simp; done) | (simp; omega)) (by first | omega | assumption | (simp; done) | (simp; omega))) (by kernel_rfl) (by kernel_rfl) ?_)
      intro p3
      refine g_adv 15 [.c 1022, .c 1023] 2 [(2, pt b1 0), (6, pt p1 0), (8, pt p2 0), (9, pt p3 0)] (by kernel_rfl) ?_
      refine d_start (by kernel_rfl) (by kernel_rfl) ?_
      refine d_run1 [(0, .agg #[vi c.regions, vi c.objects, vi c.stripes, vi c.width, vi c.threads, vi c.slots, vi c.regs, vi c.locks, vi c.undo, vi c.escalate, vi c.tickets, vi c.policy]), (1, pt p1 0), (2, pt p2 0), (3, pt p3 0)] 4 (by kernel_rfl) (.one _ _ (evOK_loadG 4 b1 0 [vi c.regions, vi c.objects, vi c.stripes, vi c.width, vi c.threads, vi c.slots, vi c.regs, vi c.locks, vi c.undo, vi c.escalate, vi c.tickets, vi c.policy] (by kernel_rfl) (by kernel_rfl)) (.plainN 3 (by kernel_rfl) .nil)) (by kernel_rfl) (ot_call [] (c_nap_New) (by kernel_rfl) (by kernel_rfl) ?_)
      intro p4
      refine d_run1 [] 5 (by kernel_rfl) (.done _ _ (by kernel_rfl) (.one _ _ (evOK_loadG 5 b1 0 [vi c.regions, vi c.objects, vi c.stripes, vi c.width, vi c.threads, vi c.slots, vi c.regs, vi c.locks, vi c.undo, vi c.escalate, vi c.tickets, vi c.policy] (by kernel_rfl) (by kernel_rfl)) (.plainN 3 (by kernel_rfl) .nil))) (by kernel_rfl) (ot_call [] (c_story_New) (by kernel_rfl) (by kernel_rfl) ?_)
      intro p5
      refine d_run1 [(6, .agg #[vi c.regions, vi c.objects, vi c.stripes, vi c.width, vi c.threads, vi c.slots, vi c.regs, vi c.locks, vi c.undo, vi c.escalate, vi c.tickets, vi c.policy, pt p1 0, pt p2 0, pt p3 0, pt p4 0, pt p5 0])] 7 (by kernel_rfl) (.plainN 1 (by kernel_rfl) (.done _ _ (by kernel_rfl) (.done _ _ (by kernel_rfl) (.one _ _ (evOK_loadG 6 b1 0 [vi c.regions, vi c.objects, vi c.stripes, vi c.width, vi c.threads, vi c.slots, vi c.regs, vi c.locks, vi c.undo, vi c.escalate, vi c.tickets, vi c.policy] (by kernel_rfl) (by kernel_rfl)) (.plainN 3 (by kernel_rfl) .nil))))) (by kernel_rfl) (ot_new #[vi c.regions, vi c.objects, vi c.stripes, vi c.width, vi c.threads, vi c.slots, vi c.regs, vi c.locks, vi c.undo, vi c.escalate, vi c.tickets, vi c.policy, pt p1 0, pt p2 0, pt p3 0, pt p4 0, pt p5 0] 94 (by kernel_rfl) ?_)
      intro b2
      refine d_end [(8, pt b2 0)] [(2, pt b1 0), (10, pt b2 0)] (by kernel_rfl) (.plainN 1 (by kernel_rfl) (.done _ _ (by kernel_rfl) (.plainN 1 (by kernel_rfl) (.done _ _ (by kernel_rfl) (.done _ _ (by kernel_rfl) (.one _ _ (evOK_loadG 7 b1 0 [vi c.regions, vi c.objects, vi c.stripes, vi c.width, vi c.threads, vi c.slots, vi c.regs, vi c.locks, vi c.undo, vi c.escalate, vi c.tickets, vi c.policy] (by kernel_rfl) (by kernel_rfl)) (.plainN 3 (by kernel_rfl) .nil))))))) (by kernel_rfl) ?_
      refine g_adv 1 [.c 2046, .c 2047] 1 [(2, pt b1 0), (10, pt b2 0)] (by kernel_rfl) ?_
      refine d_start (by kernel_rfl) (by kernel_rfl) ?_
      refine d_runs [(0, pt b2 0), (1, pt b1 4), (2, vi c.threads), (4, pt b1 4), (5, vi c.threads), (7, pt b1 4), (8, vi c.threads)] [3, 6, 9] (by kernel_rfl) rfl (.plainN 2 (by kernel_rfl) (.one _ _ (evOK_loadC 7 b1 4 _ (by kernel_rfl) (by kernel_rfl)) (.plainN 1 (by kernel_rfl) (.one _ _ (evOK_loadC 7 b1 4 _ (by kernel_rfl) (by kernel_rfl)) (.plainN 1 (by kernel_rfl) (.one _ _ (evOK_loadC 7 b1 4 _ (by kernel_rfl) (by kernel_rfl)) .nil)))))) (by kernel_rfl) ⟨?_, ?_, ?_, trivial⟩
      · refine ot_makeZ c.threads c.threads.toNat encI (0 : Int) 3 1 8 #[vi 0] (by kernel_rfl) (by omega) (fun _ => rfl) rfl (by omega) (by omega) ?_
        intro b6
        refine d_done [2] (by kernel_rfl) ?_
        refine d_runs [] [6, 9] (by kernel_rfl) rfl (.done _ _ (by kernel_rfl) (.plainN 2 (by kernel_rfl) (.done _ _ (by kernel_rfl) (.plainN 1 (by kernel_rfl) (.one _ _ (evOK_loadC 8 b1 4 _ (by kernel_rfl) (by kernel_rfl)) (.plainN 1 (by kernel_rfl) (.one _ _ (evOK_loadC 8 b1 4 _ (by kernel_rfl) (by kernel_rfl)) .nil))))))) (by kernel_rfl) ⟨?_, ?_, trivial⟩
        · refine ot_makeZ c.threads c.threads.toNat encB false 4 1 1 #[vb false] (by kernel_rfl) (by omega) (fun _ => rfl) rfl (by omega) (by omega) ?_
          intro b9
          refine d_done [5] (by kernel_rfl) ?_
          refine d_run1 [] 9 (by kernel_rfl) (.done _ _ (by kernel_rfl) (.done _ _ (by kernel_rfl) (.plainN 2 (by kernel_rfl) (.done _ _ (by kernel_rfl) (.plainN 1 (by kernel_rfl) (.done _ _ (by kernel_rfl) (.plainN 1 (by kernel_rfl) (.one _ _ (evOK_loadC 9 b1 4 _ (by kernel_rfl) (by kernel_rfl)) .nil)))))))) (by kernel_rfl) (ot_makeZ c.threads c.threads.toNat encI (0 : Int) 27 1 8 #[vi 0] (by kernel_rfl) (by omega) (fun _ => rfl) rfl (by omega) (by omega) ?_)
          intro b10
          refine d_done [8] (by kernel_rfl) ?_
          refine d_run1 [(10, .agg #[pt b2 0, .slice (some ⟨b6, 0, none⟩) ((List.replicate c.threads.toNat (0 : Int)).length) c.threads.toNat, .slice (some ⟨b9, 0, none⟩) ((List.replicate c.threads.toNat false).length) c.threads.toNat, .slice (some ⟨b10, 0, none⟩) ((List.replicate c.threads.toNat (0 : Int)).length) c.threads.toNat, vi 0])] 11 (by kernel_rfl) (.plainN 1 (by kernel_rfl) (.done _ _ (by kernel_rfl) (.done _ _ (by kernel_rfl) (.done _ _ (by kernel_rfl) (.plainN 2 (by kernel_rfl) (.done _ _ (by kernel_rfl) (.plainN 1 (by kernel_rfl) (.done _ _ (by kernel_rfl) (.plainN 1 (by kernel_rfl) (.done _ _ (by kernel_rfl) .nil)))))))))) (by kernel_rfl) (ot_new #[pt b2 0, .slice (some ⟨b6, 0, none⟩) ((List.replicate c.threads.toNat (0 : Int)).length) c.threads.toNat, .slice (some ⟨b9, 0, none⟩) ((List.replicate c.threads.toNat false).length) c.threads.toNat, .slice (some ⟨b10, 0, none⟩) ((List.replicate c.threads.toNat (0 : Int)).length) c.threads.toNat, vi 0] 36 (by kernel_rfl) ?_)
          intro b11
          refine d_end [(12, pt b11 0), (13, vi 0)] [(4, pt b11 0), (5, vi 0)] (by kernel_rfl) (.plainN 2 (by kernel_rfl) (.done _ _ (by kernel_rfl) (.plainN 1 (by kernel_rfl) (.done _ _ (by kernel_rfl) (.done _ _ (by kernel_rfl) (.done _ _ (by kernel_rfl) (.plainN 2 (by kernel_rfl) (.done _ _ (by kernel_rfl) (.plainN 1 (by kernel_rfl) (.done _ _ (by kernel_rfl) (.plainN 1 (by kernel_rfl) (.done _ _ (by kernel_rfl) .nil)))))))))))) (by kernel_rfl) ?_
          refine g_adv 1 [] 1 [(4, pt b11 0), (5, vi 0)] (by kernel_rfl) ?_
          refine g_close (PartsPF b2 ((newCore c l).parts)) (p1, p2, p3, p4, p5) [4, 8, 7, 6, 5, 4] (by kernel_rfl) ?_
          refine g_close (CorePF b11 (newCore c l)) (b2, (some ⟨b6, 0, none⟩), c.threads.toNat, (some ⟨b9, 0, none⟩), c.threads.toNat, (some ⟨b10, 0, none⟩), c.threads.toNat) [1, 0, 2, 1, 0] (by kernel_rfl) ?_
          refine g_post b11 [0, 0, 1] [pt b11 0, vi 0] (.tmp (by kernel_rfl) (.tmp (by kernel_rfl) .nil)) (rfl) (by kernel_rfl)
        · refine ot_makeZ c.threads c.threads.toNat encI (0 : Int) 27 1 8 #[vi 0] (by kernel_rfl) (by omega) (fun _ => rfl) rfl (by omega) (by omega) ?_
          intro b9
          refine d_done [8] (by kernel_rfl) ?_
          refine d_run1 [] 6 (by kernel_rfl) (.done _ _ (by kernel_rfl) (.done _ _ (by kernel_rfl) (.plainN 2 (by kernel_rfl) (.done _ _ (by kernel_rfl) (.plainN 1 (by kernel_rfl) (.one _ _ (evOK_loadC 9 b1 4 _ (by kernel_rfl) (by kernel_rfl)) (.plainN 1 (by kernel_rfl) (.done _ _ (by kernel_rfl) .nil)))))))) (by kernel_rfl) (ot_makeZ c.threads c.threads.toNat encB false 4 1 1 #[vb false] (by kernel_rfl) (by omega) (fun _ => rfl) rfl (by omega) (by omega) ?_)
          intro b10
          refine d_done [5] (by kernel_rfl) ?_
          refine d_run1 [(10, .agg #[pt b2 0, .slice (some ⟨b6, 0, none⟩) ((List.replicate c.threads.toNat (0 : Int)).length) c.threads.toNat, .slice (some ⟨b10, 0, none⟩) ((List.replicate c.threads.toNat false).length) c.threads.toNat, .slice (some ⟨b9, 0, none⟩) ((List.replicate c.threads.toNat (0 : Int)).length) c.threads.toNat, vi 0])] 11 (by kernel_rfl) (.plainN 1 (by kernel_rfl) (.done _ _ (by kernel_rfl) (.done _ _ (by kernel_rfl) (.done _ _ (by kernel_rfl) (.plainN 2 (by kernel_rfl) (.done _ _ (by kernel_rfl) (.plainN 1 (by kernel_rfl) (.done _ _ (by kernel_rfl) (.plainN 1 (by kernel_rfl) (.done _ _ (by kernel_rfl) .nil)))))))))) (by kernel_rfl) (ot_new #[pt b2 0, .slice (some ⟨b6, 0, none⟩) ((List.replicate c.threads.toNat (0 : Int)).length) c.threads.toNat, .slice (some ⟨b10, 0, none⟩) ((List.replicate c.threads.toNat false).length) c.threads.toNat, .slice (some ⟨b9, 0, none⟩) ((List.replicate c.threads.toNat (0 : Int)).length) c.threads.toNat, vi 0] 36 (by kernel_rfl) ?_)
          intro b11
          refine d_end [(12, pt b11 0), (13, vi 0)] [(4, pt b11 0), (5, vi 0)] (by kernel_rfl) (.plainN 2 (by kernel_rfl) (.done _ _ (by kernel_rfl) (.plainN 1 (by kernel_rfl) (.done _ _ (by kernel_rfl) (.done _ _ (by kernel_rfl) (.done _ _ (by kernel_rfl) (.plainN 2 (by kernel_rfl) (.done _ _ (by kernel_rfl) (.plainN 1 (by kernel_rfl) (.done _ _ (by kernel_rfl) (.plainN 1 (by kernel_rfl) (.done _ _ (by kernel_rfl) .nil)))))))))))) (by kernel_rfl) ?_
          refine g_adv 1 [] 1 [(4, pt b11 0), (5, vi 0)] (by kernel_rfl) ?_
          refine g_close (PartsPF b2 ((newCore c l).parts)) (p1, p2, p3, p4, p5) [4, 8, 7, 6, 5, 4] (by kernel_rfl) ?_
          refine g_close (CorePF b11 (newCore c l)) (b2, (some ⟨b6, 0, none⟩), c.threads.toNat, (some ⟨b10, 0, none⟩), c.threads.toNat, (some ⟨b9, 0, none⟩), c.threads.toNat) [1, 0, 2, 0, 0] (by kernel_rfl) ?_
          refine g_post b11 [0, 0, 1] [pt b11 0, vi 0] (.tmp (by kernel_rfl) (.tmp (by kernel_rfl) .nil)) (rfl) (by kernel_rfl)
      · refine ot_makeZ c.threads c.threads.toNat encB false 4 1 1 #[vb false] (by kernel_rfl) (by omega) (fun _ => rfl) rfl (by omega) (by omega) ?_
        intro b6
        refine d_done [5] (by kernel_rfl) ?_
        refine d_runs [] [3, 9] (by kernel_rfl) rfl (.done _ _ (by kernel_rfl) (.plainN 2 (by kernel_rfl) (.one _ _ (evOK_loadC 8 b1 4 _ (by kernel_rfl) (by kernel_rfl)) (.plainN 1 (by kernel_rfl) (.done _ _ (by kernel_rfl) (.plainN 1 (by kernel_rfl) (.one _ _ (evOK_loadC 8 b1 4 _ (by kernel_rfl) (by kernel_rfl)) .nil))))))) (by kernel_rfl) ⟨?_, ?_, trivial⟩
        · refine ot_makeZ c.threads c.threads.toNat encI (0 : Int) 3 1 8 #[vi 0] (by kernel_rfl) (by omega) (fun _ => rfl) rfl (by omega) (by omega) ?_
          intro b9
          refine d_done [2] (by kernel_rfl) ?_
          refine d_run1 [] 9 (by kernel_rfl) (.done _ _ (by kernel_rfl) (.done _ _ (by kernel_rfl) (.plainN 2 (by kernel_rfl) (.done _ _ (by kernel_rfl) (.plainN 1 (by kernel_rfl) (.done _ _ (by kernel_rfl) (.plainN 1 (by kernel_rfl) (.one _ _ (evOK_loadC 9 b1 4 _ (by kernel_rfl) (by kernel_rfl)) .nil)))))))) (by kernel_rfl) (ot_makeZ c.threads c.threads.toNat encI (0 : Int) 27 1 8 #[vi 0] (by kernel_rfl) (by omega) (fun _ => rfl) rfl (by omega) (by omega) ?_)
          intro b10
          refine d_done [8] (by kernel_rfl) ?_
          refine d_run1 [(10, .agg #[pt b2 0, .slice (some ⟨b9, 0, none⟩) ((List.replicate c.threads.toNat (0 : Int)).length) c.threads.toNat, .slice (some ⟨b6, 0, none⟩) ((List.replicate c.threads.toNat false).length) c.threads.toNat, .slice (some ⟨b10, 0, none⟩) ((List.replicate c.threads.toNat (0 : Int)).length) c.threads.toNat, vi 0])] 11 (by kernel_rfl) (.plainN 1 (by kernel_rfl) (.done _ _ (by kernel_rfl) (.done _ _ (by kernel_rfl) (.done _ _ (by kernel_rfl) (.plainN 2 (by kernel_rfl) (.done _ _ (by kernel_rfl) (.plainN 1 (by kernel_rfl) (.done _ _ (by kernel_rfl) (.plainN 1 (by kernel_rfl) (.done _ _ (by kernel_rfl) .nil)))))))))) (by kernel_rfl) (ot_new #[pt b2 0, .slice (some ⟨b9, 0, none⟩) ((List.replicate c.threads.toNat (0 : Int)).length) c.threads.toNat, .slice (some ⟨b6, 0, none⟩) ((List.replicate c.threads.toNat false).length) c.threads.toNat, .slice (some ⟨b10, 0, none⟩) ((List.replicate c.threads.toNat (0 : Int)).length) c.threads.toNat, vi 0] 36 (by kernel_rfl) ?_)
          intro b11
          refine d_end [(12, pt b11 0), (13, vi 0)] [(4, pt b11 0), (5, vi 0)] (by kernel_rfl) (.plainN 2 (by kernel_rfl) (.done _ _ (by kernel_rfl) (.plainN 1 (by kernel_rfl) (.done _ _ (by kernel_rfl) (.done _ _ (by kernel_rfl) (.done _ _ (by kernel_rfl) (.plainN 2 (by kernel_rfl) (.done _ _ (by kernel_rfl) (.plainN 1 (by kernel_rfl) (.done _ _ (by kernel_rfl) (.plainN 1 (by kernel_rfl) (.done _ _ (by kernel_rfl) .nil)))))))))))) (by kernel_rfl) ?_
          refine g_adv 1 [] 1 [(4, pt b11 0), (5, vi 0)] (by kernel_rfl) ?_
          refine g_close (PartsPF b2 ((newCore c l).parts)) (p1, p2, p3, p4, p5) [4, 8, 7, 6, 5, 4] (by kernel_rfl) ?_
          refine g_close (CorePF b11 (newCore c l)) (b2, (some ⟨b9, 0, none⟩), c.threads.toNat, (some ⟨b6, 0, none⟩), c.threads.toNat, (some ⟨b10, 0, none⟩), c.threads.toNat) [1, 0, 1, 1, 0] (by kernel_rfl) ?_
          refine g_post b11 [0, 0, 1] [pt b11 0, vi 0] (.tmp (by kernel_rfl) (.tmp (by kernel_rfl) .nil)) (rfl) (by kernel_rfl)
        · refine ot_makeZ c.threads c.threads.toNat encI (0 : Int) 27 1 8 #[vi 0] (by kernel_rfl) (by omega) (fun _ => rfl) rfl (by omega) (by omega) ?_
          intro b9
          refine d_done [8] (by kernel_rfl) ?_
          refine d_run1 [] 3 (by kernel_rfl) (.done _ _ (by kernel_rfl) (.done _ _ (by kernel_rfl) (.plainN 2 (by kernel_rfl) (.one _ _ (evOK_loadC 9 b1 4 _ (by kernel_rfl) (by kernel_rfl)) (.plainN 1 (by kernel_rfl) (.done _ _ (by kernel_rfl) (.plainN 1 (by kernel_rfl) (.done _ _ (by kernel_rfl) .nil)))))))) (by kernel_rfl) (ot_makeZ c.threads c.threads.toNat encI (0 : Int) 3 1 8 #[vi 0] (by kernel_rfl) (by omega) (fun _ => rfl) rfl (by omega) (by omega) ?_)
          intro b10
          refine d_done [2] (by kernel_rfl) ?_
          refine d_run1 [(10, .agg #[pt b2 0, .slice (some ⟨b10, 0, none⟩) ((List.replicate c.threads.toNat (0 : Int)).length) c.threads.toNat, .slice (some ⟨b6, 0, none⟩) ((List.replicate c.threads.toNat false).length) c.threads.toNat, .slice (some ⟨b9, 0, none⟩) ((List.replicate c.threads.toNat (0 : Int)).length) c.threads.toNat, vi 0])] 11 (by kernel_rfl) (.plainN 1 (by kernel_rfl) (.done _ _ (by kernel_rfl) (.done _ _ (by kernel_rfl) (.done _ _ (by kernel_rfl) (.plainN 2 (by kernel_rfl) (.done _ _ (by kernel_rfl) (.plainN 1 (by kernel_rfl) (.done _ _ (by kernel_rfl) (.plainN 1 (by kernel_rfl) (.done _ _ (by kernel_rfl) .nil)))))))))) (by kernel_rfl) (ot_new #[pt b2 0, .slice (some ⟨b10, 0, none⟩) ((List.replicate c.threads.toNat (0 : Int)).length) c.threads.toNat, .slice (some ⟨b6, 0, none⟩) ((List.replicate c.threads.toNat false).length) c.threads.toNat, .slice (some ⟨b9, 0, none⟩) ((List.replicate c.threads.toNat (0 : Int)).length) c.threads.toNat, vi 0] 36 (by kernel_rfl) ?_)
          intro b11
          refine d_end [(12, pt b11 0), (13, vi 0)] [(4, pt b11 0), (5, vi 0)] (by kernel_rfl) (.plainN 2 (by kernel_rfl) (.done _ _ (by kernel_rfl) (.plainN 1 (by kernel_rfl) (.done _ _ (by kernel_rfl) (.done _ _ (by kernel_rfl) (.done _ _ (by kernel_rfl) (.plainN 2 (by kernel_rfl) (.done _ _ (by kernel_rfl) (.plainN 1 (by kernel_rfl) (.done _ _ (by kernel_rfl) (.plainN 1 (by kernel_rfl) (.done _ _ (by kernel_rfl) .nil)))))))))))) (by kernel_rfl) ?_
          refine g_adv 1 [] 1 [(4, pt b11 0), (5, vi 0)] (by kernel_rfl) ?_
          refine g_close (PartsPF b2 ((newCore c l).parts)) (p1, p2, p3, p4, p5) [4, 8, 7, 6, 5, 4] (by kernel_rfl) ?_
          refine g_close (CorePF b11 (newCore c l)) (b2, (some ⟨b10, 0, none⟩), c.threads.toNat, (some ⟨b6, 0, none⟩), c.threads.toNat, (some ⟨b9, 0, none⟩), c.threads.toNat) [1, 0, 0, 1, 0] (by kernel_rfl) ?_
          refine g_post b11 [0, 0, 1] [pt b11 0, vi 0] (.tmp (by kernel_rfl) (.tmp (by kernel_rfl) .nil)) (rfl) (by kernel_rfl)
      · refine ot_makeZ c.threads c.threads.toNat encI (0 : Int) 27 1 8 #[vi 0] (by kernel_rfl) (by omega) (fun _ => rfl) rfl (by omega) (by omega) ?_
        intro b6
        refine d_done [8] (by kernel_rfl) ?_
        refine d_runs [] [3, 6] (by kernel_rfl) rfl (.done _ _ (by kernel_rfl) (.plainN 2 (by kernel_rfl) (.one _ _ (evOK_loadC 8 b1 4 _ (by kernel_rfl) (by kernel_rfl)) (.plainN 1 (by kernel_rfl) (.one _ _ (evOK_loadC 8 b1 4 _ (by kernel_rfl) (by kernel_rfl)) (.plainN 1 (by kernel_rfl) (.done _ _ (by kernel_rfl) .nil))))))) (by kernel_rfl) ⟨?_, ?_, trivial⟩
        · refine ot_makeZ c.threads c.threads.toNat encI (0 : Int) 3 1 8 #[vi 0] (by kernel_rfl) (by omega) (fun _ => rfl) rfl (by omega) (by omega) ?_
          intro b9
          refine d_done [2] (by kernel_rfl) ?_
          refine d_run1 [] 6 (by kernel_rfl) (.done _ _ (by kernel_rfl) (.done _ _ (by kernel_rfl) (.plainN 2 (by kernel_rfl) (.done _ _ (by kernel_rfl) (.plainN 1 (by kernel_rfl) (.one _ _ (evOK_loadC 9 b1 4 _ (by kernel_rfl) (by kernel_rfl)) (.plainN 1 (by kernel_rfl) (.done _ _ (by kernel_rfl) .nil)))))))) (by kernel_rfl) (ot_makeZ c.threads c.threads.toNat encB false 4 1 1 #[vb false] (by kernel_rfl) (by omega) (fun _ => rfl) rfl (by omega) (by omega) ?_)
          intro b10
          refine d_done [5] (by kernel_rfl) ?_
          refine d_run1 [(10, .agg #[pt b2 0, .slice (some ⟨b9, 0, none⟩) ((List.replicate c.threads.toNat (0 : Int)).length) c.threads.toNat, .slice (some ⟨b10, 0, none⟩) ((List.replicate c.threads.toNat false).length) c.threads.toNat, .slice (some ⟨b6, 0, none⟩) ((List.replicate c.threads.toNat (0 : Int)).length) c.threads.toNat, vi 0])] 11 (by kernel_rfl) (.plainN 1 (by kernel_rfl) (.done _ _ (by kernel_rfl) (.done _ _ (by kernel_rfl) (.done _ _ (by kernel_rfl) (.plainN 2 (by kernel_rfl) (.done _ _ (by kernel_rfl) (.plainN 1 (by kernel_rfl) (.done _ _ (by kernel_rfl) (.plainN 1 (by kernel_rfl) (.done _ _ (by kernel_rfl) .nil)))))))))) (by kernel_rfl) (ot_new #[pt b2 0, .slice (some ⟨b9, 0, none⟩) ((List.replicate c.threads.toNat (0 : Int)).length) c.threads.toNat, .slice (some ⟨b10, 0, none⟩) ((List.replicate c.threads.toNat false).length) c.threads.toNat, .slice (some ⟨b6, 0, none⟩) ((List.replicate c.threads.toNat (0 : Int)).length) c.threads.toNat, vi 0] 36 (by kernel_rfl) ?_)
          intro b11
          refine d_end [(12, pt b11 0), (13, vi 0)] [(4, pt b11 0), (5, vi 0)] (by kernel_rfl) (.plainN 2 (by kernel_rfl) (.done _ _ (by kernel_rfl) (.plainN 1 (by kernel_rfl) (.done _ _ (by kernel_rfl) (.done _ _ (by kernel_rfl) (.done _ _ (by kernel_rfl) (.plainN 2 (by kernel_rfl) (.done _ _ (by kernel_rfl) (.plainN 1 (by kernel_rfl) (.done _ _ (by kernel_rfl) (.plainN 1 (by kernel_rfl) (.done _ _ (by kernel_rfl) .nil)))))))))))) (by kernel_rfl) ?_
          refine g_adv 1 [] 1 [(4, pt b11 0), (5, vi 0)] (by kernel_rfl) ?_
          refine g_close (PartsPF b2 ((newCore c l).parts)) (p1, p2, p3, p4, p5) [4, 8, 7, 6, 5, 4] (by kernel_rfl) ?_
          refine g_close (CorePF b11 (newCore c l)) (b2, (some ⟨b9, 0, none⟩), c.threads.toNat, (some ⟨b10, 0, none⟩), c.threads.toNat, (some ⟨b6, 0, none⟩), c.threads.toNat) [1, 0, 1, 0, 0] (by kernel_rfl) ?_
          refine g_post b11 [0, 0, 1] [pt b11 0, vi 0] (.tmp (by kernel_rfl) (.tmp (by kernel_rfl) .nil)) (rfl) (by kernel_rfl)
        · refine ot_makeZ c.threads c.threads.toNat encB false 4 1 1 #[vb false] (by kernel_rfl) (by omega) (fun _ => rfl) rfl (by omega) (by omega) ?_
          intro b9
          refine d_done [5] (by kernel_rfl) ?_
          refine d_run1 [] 3 (by kernel_rfl) (.done _ _ (by kernel_rfl) (.done _ _ (by kernel_rfl) (.plainN 2 (by kernel_rfl) (.one _ _ (evOK_loadC 9 b1 4 _ (by kernel_rfl) (by kernel_rfl)) (.plainN 1 (by kernel_rfl) (.done _ _ (by kernel_rfl) (.plainN 1 (by kernel_rfl) (.done _ _ (by kernel_rfl) .nil)))))))) (by kernel_rfl) (ot_makeZ c.threads c.threads.toNat encI (0 : Int) 3 1 8 #[vi 0] (by kernel_rfl) (by omega) (fun _ => rfl) rfl (by omega) (by omega) ?_)
          intro b10
          refine d_done [2] (by kernel_rfl) ?_
          refine d_run1 [(10, .agg #[pt b2 0, .slice (some ⟨b10, 0, none⟩) ((List.replicate c.threads.toNat (0 : Int)).length) c.threads.toNat, .slice (some ⟨b9, 0, none⟩) ((List.replicate c.threads.toNat false).length) c.threads.toNat, .slice (some ⟨b6, 0, none⟩) ((List.replicate c.threads.toNat (0 : Int)).length) c.threads.toNat, vi 0])] 11 (by kernel_rfl) (.plainN 1 (by kernel_rfl) (.done _ _ (by kernel_rfl) (.done _ _ (by kernel_rfl) (.done _ _ (by kernel_rfl) (.plainN 2 (by kernel_rfl) (.done _ _ (by kernel_rfl) (.plainN 1 (by kernel_rfl) (.done _ _ (by kernel_rfl) (.plainN 1 (by kernel_rfl) (.done _ _ (by kernel_rfl) .nil)))))))))) (by kernel_rfl) (ot_new #[pt b2 0, .slice (some ⟨b10, 0, none⟩) ((List.replicate c.threads.toNat (0 : Int)).length) c.threads.toNat, .slice (some ⟨b9, 0, none⟩) ((List.replicate c.threads.toNat false).length) c.threads.toNat, .slice (some ⟨b6, 0, none⟩) ((List.replicate c.threads.toNat (0 : Int)).length) c.threads.toNat, vi 0] 36 (by kernel_rfl) ?_)
          intro b11
          refine d_end [(12, pt b11 0), (13, vi 0)] [(4, pt b11 0), (5, vi 0)] (by kernel_rfl) (.plainN 2 (by kernel_rfl) (.done _ _ (by kernel_rfl) (.plainN 1 (by kernel_rfl) (.done _ _ (by kernel_rfl) (.done _ _ (by kernel_rfl) (.done _ _ (by kernel_rfl) (.plainN 2 (by kernel_rfl) (.done _ _ (by kernel_rfl) (.plainN 1 (by kernel_rfl) (.done _ _ (by kernel_rfl) (.plainN 1 (by kernel_rfl) (.done _ _ (by kernel_rfl) .nil)))))))))))) (by kernel_rfl) ?_
          refine g_adv 1 [] 1 [(4, pt b11 0), (5, vi 0)] (by kernel_rfl) ?_
          refine g_close (PartsPF b2 ((newCore c l).parts)) (p1, p2, p3, p4, p5) [4, 8, 7, 6, 5, 4] (by kernel_rfl) ?_
          refine g_close (CorePF b11 (newCore c l)) (b2, (some ⟨b10, 0, none⟩), c.threads.toNat, (some ⟨b9, 0, none⟩), c.threads.toNat, (some ⟨b6, 0, none⟩), c.threads.toNat) [1, 0, 0, 0, 0] (by kernel_rfl) ?_
          refine g_post b11 [0, 0, 1] [pt b11 0, vi 0] (.tmp (by kernel_rfl) (.tmp (by kernel_rfl) .nil)) (rfl) (by kernel_rfl)

theorem c_core_New_bad (c : Conf) (a : Option Addr) (cp : Nat) (l : List Int) (X : SP) (rl : Reads X 1 encI a l) (hb : ¬ (check c = 0 ∧ (l.length : Int) = words c)) : Ct Tryz.prog 9 [.agg #[vi c.regions, vi c.objects, vi c.stripes, vi c.width, vi c.threads, vi c.slots, vi c.regs, vi c.locks, vi c.undo, vi c.escalate, vi c.tickets, vi c.policy], .slice a l.length cp] [.sp X] (fun _ : Unit => .tuple #[.pointer none, vi 1]) (fun _ => [.sp X]) := by
  refine ct_intro Tryz.f9 71 Tryz.func9 rfl rfl rfl (fun E R => ?_)
  refine g_adv 2 [.o 2 0, .c 3] 1 [(0, .agg #[vi c.regions, vi c.objects, vi c.stripes, vi c.width, vi c.threads, vi c.slots, vi c.regs, vi c.locks, vi c.undo, vi c.escalate, vi c.tickets, vi c.policy]), (1, .slice a l.length cp)] (by kernel_rfl) ?_
  refine g_op (by kernel_rfl) (ot_new #[vi c.regions, vi c.objects, vi c.stripes, vi c.width, vi c.threads, vi c.slots, vi c.regs, vi c.locks, vi c.undo, vi c.escalate, vi c.tickets, vi c.policy] 25 (by kernel_rfl) ?_)
  intro b1
  refine g_adv 6 [.o 12 0, .c 13, .c 7] 2 [(1, .slice a l.length cp), (2, pt b1 0)] (by kernel_rfl) ?_
  refine g_op (by kernel_rfl) (ot_loadA 0 b1 0 [vi c.regions, vi c.objects, vi c.stripes, vi c.width, vi c.threads, vi c.slots, vi c.regs, vi c.locks, vi c.undo, vi c.escalate, vi c.tickets, vi c.policy] (by kernel_rfl) (by kernel_rfl) ?_)
  refine g_op (by kernel_rfl) (ot_call [] (c_shape_Check c) (by kernel_rfl) (by kernel_rfl) ?_)
  intro _
  refine g_adv 2 [.o 12 4] 1 [(1, .slice a l.length cp), (2, pt b1 0), (14, vb (check c != 0))] (by kernel_rfl) ?_
  refine g_bool 14 (check c != 0) (by kernel_rfl) (fun h1 => ?_) (fun h1 => ?_)
  · have h1p : check c ≠ 0 := bne_iff_ne.1 h1
    refine g_adv 14 [] 3 [(4, .pointer none), (5, vi 1)] (by kernel_rfl) ?_
    refine g_post () [1, 1] [.pointer none, vi 1] (.tmp (by kernel_rfl) (.tmp (by kernel_rfl) .nil)) (rfl) (by kernel_rfl)
  · have h1p : check c = 0 := (by simpa using h1)
    refine g_adv 2 [.o 12 6] 1 [(1, .slice a l.length cp), (2, pt b1 0), (14, vb false), (16, vi (l.length : Int))] (by kernel_rfl) ?_
    refine g_op (by kernel_rfl) (ot_loadA 0 b1 0 [vi c.regions, vi c.objects, vi c.stripes, vi c.width, vi c.threads, vi c.slots, vi c.regs, vi c.locks, vi c.undo, vi c.escalate, vi c.tickets, vi c.policy] (by kernel_rfl) (by kernel_rfl) ?_)
    refine g_op (by kernel_rfl) (ot_call [] (c_shape_Words c) (by kernel_rfl) (by kernel_rfl) ?_)
    intro _
    refine g_adv 3 [] 1 [(1, .slice a l.length cp), (2, pt b1 0), (20, vb ((l.length : Int) != words c))] (by kernel_rfl) ?_
    refine g_cond ((l.length : Int) != words c) (by kernel_rfl) (fun h2 => ?_) (fun h2 => ?_)
    · have h2p : (l.length : Int) ≠ words c := bne_iff_ne.1 h2
      refine g_adv 6 [] 2 [(4, .pointer none), (5, vi 1)] (by kernel_rfl) ?_
      refine g_post () [1, 1] [.pointer none, vi 1] (.tmp (by kernel_rfl) (.tmp (by kernel_rfl) .nil)) (rfl) (by kernel_rfl)
    · have h2p : (l.length : Int) = words c := (by simpa using h2)
      exact absurd ⟨h1p, h2p⟩ hb

end Go.Proofs
