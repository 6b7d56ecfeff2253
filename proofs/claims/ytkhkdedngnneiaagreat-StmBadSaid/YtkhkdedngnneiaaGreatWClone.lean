/- The walks of the layer clone: printed by a program of this repo (wip/gen). -/
import Derived.Test.YtkhkdedngnneiaaGreatWProg
import Derived.Test.YtkhkdedngnneiaaGreatModel
import Derived.Test.YtkhkdedngnneiaaGreatProg
namespace Go.Proofs
open Go Go.Sl Go.Lk
set_option maxRecDepth 20000
set_option linter.unusedVariables false

theorem c_slices_Clone_int_int_ (a : Option Addr) (cp : Nat) (l : List Int) (X : SP) (rl : Reads X 1 encI a l) (hl : l.length ≤ 1099511627776) : Ct Tryz.prog 53 [.slice a l.length cp] [.sp X] (fun x : (Option Addr) × Nat => match x with | (a2, c2) => .slice a2 l.length c2) (fun x => match x with | (a2, c2) => [.sp (Sl 3 1 encI a2 c2 l), .sp X]) := by
  refine ct_intro Tryz.f53 8 Tryz.func53 rfl rfl rfl (fun E R => ?_)
  rcases a with _ | ad
  · refine g_rnil 0 rl (by kernel_rfl) (fun e => ?_)
    subst e
    refine g_adv 16 [] 1 [(2, .slice none 0 0)] (by kernel_rfl) ?_
    refine g_nil 3 1 encI (fun _ => rfl) ?_
    refine g_post (none, 0) [0, 0, 0] [.slice none 0 0] (.tmp (by kernel_rfl) .nil) (by simp [resV, *]) (by kernel_rfl)
  · refine g_adv 14 [.o 14 0, .c 15] 1 [(0, .slice (some ad) l.length cp)] (by kernel_rfl) ?_
    refine g_op (by kernel_rfl) (ot_lit0 3 (by kernel_rfl) ?_)
    intro b1
    refine g_adv 1 [.o 14 2] 1 [(5, .slice (some ⟨b1, 0, none⟩) 0 0), (6, .slice (some ad) l.length cp)] (by kernel_rfl) ?_
    refine g_lit 0 b1 #[] 3 1 encI (fun _ => rfl) [] (by kernel_rfl) (by rfl) ?_
    refine g_op (by kernel_rfl) (ot_append (T := 3) (sz := 1) (enc := encI) (ad := (some ⟨b1, 0, none⟩)) (cap := 0) (l := []) (ys := l) (ya := (some ad)) (yc := cp) (Y := X) 0 1 8 rl (by kernel_rfl) (by kernel_rfl) (by kernel_rfl) (fun _ => rfl) (by simp; omega) (by simp; omega) ?_)
    intro a1 c1
    refine g_adv 3 [] 2 [(2, .slice a1 ((l).length) c1)] (by kernel_rfl) ?_
    refine g_post (a1, c1) [0, 0, 0] [.slice a1 ((l).length) c1] (.tmp (by kernel_rfl) .nil) (by simp [resV, *]) (by kernel_rfl)

theorem c_lane_Entry_ (a : Option Addr) (cp : Nat) (l : List (Int × Int)) (X : SP) (rl : Reads X 2 encA a l) (hl : l.length ≤ 1099511627776) : Ct Tryz.prog 115 [.slice a l.length cp] [.sp X] (fun x : (Option Addr) × Nat => match x with | (a2, c2) => .slice a2 l.length c2) (fun x => match x with | (a2, c2) => [.sp (Sl 122 2 encA a2 c2 l), .sp X]) := by
  refine ct_intro Tryz.f115 8 Tryz.func115 rfl rfl rfl (fun E R => ?_)
  rcases a with _ | ad
  · refine g_rnil 0 rl (by kernel_rfl) (fun e => ?_)
    subst e
    refine g_adv 16 [] 1 [(2, .slice none 0 0)] (by kernel_rfl) ?_
    refine g_nil 122 2 encA (fun _ => rfl) ?_
    refine g_post (none, 0) [0, 0, 0] [.slice none 0 0] (.tmp (by kernel_rfl) .nil) (by simp [resV, *]) (by kernel_rfl)
  · refine g_adv 14 [.o 14 0, .c 15] 1 [(0, .slice (some ad) l.length cp)] (by kernel_rfl) ?_
    refine g_op (by kernel_rfl) (ot_lit0 122 (by kernel_rfl) ?_)
    intro b1
    refine g_adv 1 [.o 14 2] 1 [(5, .slice (some ⟨b1, 0, none⟩) 0 0), (6, .slice (some ad) l.length cp)] (by kernel_rfl) ?_
    refine g_lit 0 b1 #[] 122 2 encA (fun _ => rfl) [] (by kernel_rfl) (by rfl) ?_
    refine g_op (by kernel_rfl) (ot_append (T := 122) (sz := 2) (enc := encA) (ad := (some ⟨b1, 0, none⟩)) (cap := 0) (l := []) (ys := l) (ya := (some ad)) (yc := cp) (Y := X) 0 1 16 rl (by kernel_rfl) (by kernel_rfl) (by kernel_rfl) (fun _ => rfl) (by simp; omega) (by simp; omega) ?_)
    intro a1 c1
    refine g_adv 3 [] 2 [(2, .slice a1 ((l).length) c1)] (by kernel_rfl) ?_
    refine g_post (a1, c1) [0, 0, 0] [.slice a1 ((l).length) c1] (.tmp (by kernel_rfl) .nil) (by simp [resV, *]) (by kernel_rfl)

theorem c_plain_Access_ (a : Option Addr) (cp : Nat) (l : List (Int × Int)) (X : SP) (rl : Reads X 2 encA a l) (hl : l.length ≤ 1099511627776) : Ct Tryz.prog 161 [.slice a l.length cp] [.sp X] (fun x : (Option Addr) × Nat => match x with | (a2, c2) => .slice a2 l.length c2) (fun x => match x with | (a2, c2) => [.sp (Sl 64 2 encA a2 c2 l), .sp X]) := by
  refine ct_intro Tryz.f161 8 Tryz.func161 rfl rfl rfl (fun E R => ?_)
  rcases a with _ | ad
  · refine g_rnil 0 rl (by kernel_rfl) (fun e => ?_)
    subst e
    refine g_adv 16 [] 1 [(2, .slice none 0 0)] (by kernel_rfl) ?_
    refine g_nil 64 2 encA (fun _ => rfl) ?_
    refine g_post (none, 0) [0, 0, 0] [.slice none 0 0] (.tmp (by kernel_rfl) .nil) (by simp [resV, *]) (by kernel_rfl)
  · refine g_adv 14 [.o 14 0, .c 15] 1 [(0, .slice (some ad) l.length cp)] (by kernel_rfl) ?_
    refine g_op (by kernel_rfl) (ot_lit0 64 (by kernel_rfl) ?_)
    intro b1
    refine g_adv 1 [.o 14 2] 1 [(5, .slice (some ⟨b1, 0, none⟩) 0 0), (6, .slice (some ad) l.length cp)] (by kernel_rfl) ?_
    refine g_lit 0 b1 #[] 64 2 encA (fun _ => rfl) [] (by kernel_rfl) (by rfl) ?_
    refine g_op (by kernel_rfl) (ot_append (T := 64) (sz := 2) (enc := encA) (ad := (some ⟨b1, 0, none⟩)) (cap := 0) (l := []) (ys := l) (ya := (some ad)) (yc := cp) (Y := X) 0 1 16 rl (by kernel_rfl) (by kernel_rfl) (by kernel_rfl) (fun _ => rfl) (by simp; omega) (by simp; omega) ?_)
    intro a1 c1
    refine g_adv 3 [] 2 [(2, .slice a1 ((l).length) c1)] (by kernel_rfl) ?_
    refine g_post (a1, c1) [0, 0, 0] [.slice a1 ((l).length) c1] (.tmp (by kernel_rfl) .nil) (by simp [resV, *]) (by kernel_rfl)

theorem c_table_Edge_ (a : Option Addr) (cp : Nat) (l : List (Int × Int)) (X : SP) (rl : Reads X 2 encA a l) (hl : l.length ≤ 1099511627776) : Ct Tryz.prog 272 [.slice a l.length cp] [.sp X] (fun x : (Option Addr) × Nat => match x with | (a2, c2) => .slice a2 l.length c2) (fun x => match x with | (a2, c2) => [.sp (Sl 185 2 encA a2 c2 l), .sp X]) := by
  refine ct_intro Tryz.f272 8 Tryz.func272 rfl rfl rfl (fun E R => ?_)
  rcases a with _ | ad
  · refine g_rnil 0 rl (by kernel_rfl) (fun e => ?_)
    subst e
    refine g_adv 16 [] 1 [(2, .slice none 0 0)] (by kernel_rfl) ?_
    refine g_nil 185 2 encA (fun _ => rfl) ?_
    refine g_post (none, 0) [0, 0, 0] [.slice none 0 0] (.tmp (by kernel_rfl) .nil) (by simp [resV, *]) (by kernel_rfl)
  · refine g_adv 14 [.o 14 0, .c 15] 1 [(0, .slice (some ad) l.length cp)] (by kernel_rfl) ?_
    refine g_op (by kernel_rfl) (ot_lit0 185 (by kernel_rfl) ?_)
    intro b1
    refine g_adv 1 [.o 14 2] 1 [(5, .slice (some ⟨b1, 0, none⟩) 0 0), (6, .slice (some ad) l.length cp)] (by kernel_rfl) ?_
    refine g_lit 0 b1 #[] 185 2 encA (fun _ => rfl) [] (by kernel_rfl) (by rfl) ?_
    refine g_op (by kernel_rfl) (ot_append (T := 185) (sz := 2) (enc := encA) (ad := (some ⟨b1, 0, none⟩)) (cap := 0) (l := []) (ys := l) (ya := (some ad)) (yc := cp) (Y := X) 0 1 16 rl (by kernel_rfl) (by kernel_rfl) (by kernel_rfl) (fun _ => rfl) (by simp; omega) (by simp; omega) ?_)
    intro a1 c1
    refine g_adv 3 [] 2 [(2, .slice a1 ((l).length) c1)] (by kernel_rfl) ?_
    refine g_post (a1, c1) [0, 0, 0] [.slice a1 ((l).length) c1] (.tmp (by kernel_rfl) .nil) (by simp [resV, *]) (by kernel_rfl)

end Go.Proofs
