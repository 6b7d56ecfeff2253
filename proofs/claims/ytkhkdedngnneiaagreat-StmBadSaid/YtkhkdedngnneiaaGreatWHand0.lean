/- The walks of the layer hand0: printed by a program of this repo (wip/gen). -/
import Derived.Test.YtkhkdedngnneiaaGreatWClone
import Derived.Test.YtkhkdedngnneiaaGreatMHand0
import Derived.Test.YtkhkdedngnneiaaGreatProg
namespace Go.Proofs
open Go Go.Sl Go.Lk
set_option maxRecDepth 20000
set_option linter.unusedVariables false

def LstQF (r : InR) (r2 : InR) : Unit → List Chunk := fun _ => [.sp (Sl 3 1 encI r.la r.lc r.ins.l)]
def LstQ (r : InR) (r2 : InR) : SP := ex (LstQF r r2)

def ProgQF (r : RowR Instr) (raws : List InR) : Unit → List Chunk := fun _ => [.sp (Sl 38 5 encN r.a r.cap raws), .sp (Many LstQ raws raws)]
def ProgQ (r : RowR Instr) (raws : List InR) : SP := ex (ProgQF r raws)

/-- What is so of a program's rows. -/
def RowF (raws : List InR) : Prop := ∀ x ∈ raws, x.ins.l.length ≤ x.lc ∧ x.ins.l.length ≤ 1099511627776
def ProgF (r : RowR Instr) (raws : List InR) : Prop := r.l = raws.map InR.ins ∧ r.l.length ≤ r.cap ∧ r.l.length ≤ 1099511627776 ∧ RowF raws
def ProgsF (rows : List (RowR Instr)) (rawss : List (List InR)) : Prop := rows.length = rawss.length ∧ ∀ (i : Nat) (r : RowR Instr) (raws : List InR), rows[i]? = some r → rawss[i]? = some raws → ProgF r raws
theorem RowF.snoc {raws : List InR} {x : InR} (h : RowF raws) (h1 : x.ins.l.length ≤ x.lc) (h2 : x.ins.l.length ≤ 1099511627776) : RowF (raws ++ [x]) := by
  intro y hy
  rcases List.mem_append.1 hy with hy | hy
  · exact h y hy
  · simp at hy; subst hy; exact ⟨h1, h2⟩
theorem ProgsF.snoc {rows : List (RowR Instr)} {rawss : List (List InR)} {r : RowR Instr} {raws : List InR} (h : ProgsF rows rawss) (k : ProgF r raws) : ProgsF (rows ++ [r]) (rawss ++ [raws]) := by
  obtain ⟨hl, h⟩ := h
  refine ⟨by simp [hl], fun i x y hx hy => ?_⟩
  by_cases hi : i < rows.length
  · rw [List.getElem?_append_left hi] at hx; rw [List.getElem?_append_left (by omega)] at hy; exact h i x y hx hy
  · rw [List.getElem?_append_right (by omega)] at hx; rw [List.getElem?_append_right (by omega)] at hy
    have h1 := (List.getElem?_eq_some_iff.1 hx).1
    have : i - rows.length = 0 := by simp at h1; omega
    rw [this] at hx; rw [← hl, this] at hy
    simp at hx hy; subst hx; subst hy; exact k
theorem progQ_rows {r : RowR Instr} {raws : List InR} (h : ProgF r raws) : RProg (ProgQ r raws) r := by
  obtain ⟨h1, h2, h3, h4⟩ := h
  refine ⟨h2, h3, raws, h1, ?_, fun x hx => ?_⟩
  · refine PartOf.reads (X := Sl 38 5 encN r.a r.cap raws) ?_ Sl.reads
    rintro h ⟨u, d⟩
    exact PartOf.dens (L := ProgQF r raws u) (c := .sp (Sl 38 5 encN r.a r.cap raws)) (by simp [ProgQF]) h d
  · refine ⟨(h4 x hx).1, (h4 x hx).2, ?_⟩
    obtain ⟨i, hi, rfl⟩ := List.mem_iff_getElem.1 hx
    refine PartOf.reads (X := Sl 3 1 encI raws[i].la raws[i].lc raws[i].ins.l) ?_ Sl.reads
    refine PartOf.trans (Y := LstQ raws[i] raws[i]) ?_ (PartOf.trans (Y := Many LstQ raws raws) (PartOf.many (i := i) (by simp) (by simp)) ?_)
    · rintro h ⟨u, d⟩
      exact PartOf.dens (L := LstQF raws[i] raws[i] u) (c := .sp (Sl 3 1 encI raws[i].la raws[i].lc raws[i].ins.l)) (List.Mem.head _) h d
    · rintro h ⟨u, d⟩
      exact PartOf.dens (L := ProgQF r raws u) (c := .sp (Many LstQ raws raws)) (by simp [ProgQF]) h d
theorem progs_rows {a : Option Addr} {cap : Nat} {rows : List (RowR Instr)} {rawss : List (List InR)} {ps : List (List Instr)} (h : ProgsF rows rawss) (hp : rows.map RowR.l = ps) (hc : ps.length ≤ cap) (hs : ps.length ≤ 1099511627776) :
    RProgs (dens [.sp (Sl 39 1 encR1 a cap rows), .sp (Many ProgQ rows rawss)]) ⟨a, cap, ps⟩ := by
  refine ⟨hc, hs, rows, hp.symm, ?_, fun r hr => ?_⟩
  · exact PartOf.reads (PartOf.dens (c := .sp (Sl 39 1 encR1 a cap rows)) (List.Mem.head _)) (Sl.reads (T := 39) (cap := cap))
  · obtain ⟨i, hi, rfl⟩ := List.mem_iff_getElem.1 hr
    have hi2 : i < rawss.length := by have := h.1; omega
    refine RProg.part ?_ (progQ_rows (h.2 i rows[i] rawss[i] (by simp) (by simp)))
    exact PartOf.trans (PartOf.many (Q := ProgQ) (i := i) (ps := rows) (xs := rawss) (by simp) (by simp)) (PartOf.dens (c := .sp (Many ProgQ rows rawss)) (by simp))

def ProgsPF (pa : Option Addr) (pc : Nat) (ps : List (List Instr)) : SP → List Chunk := fun Y => [.prp (RProgs Y ⟨pa, pc, ps⟩), .sp Y]
def ProgsP (pa : Option Addr) (pc : Nat) (ps : List (List Instr)) : SP := ex (ProgsPF pa pc ps)

def LogPF (p : Nat) (s : Log) : (Option Addr) × Nat → List Chunk := fun (a, cp) => [.obj p (.cells #[.slice a s.l.length cp, vi s.most] 161 (0, 0)), .sp (Sl 64 2 encA a cp s.l)]
def LogP (p : Nat) (s : Log) : SP := ex (LogPF p s)

def LatchP (p : Nat) (s : Latch) : SP := fun h => h = hone p (.cells #[vi s.conf.regions, vi s.conf.objects, vi s.conf.stripes, vi s.conf.width, vi s.conf.threads, vi s.conf.slots, vi s.conf.regs, vi s.conf.locks, vi s.conf.undo, vi s.conf.escalate, vi s.conf.tickets, vi s.conf.policy,
  vi s.node, vi s.thread, vi s.st, vb s.good, vb s.reading, vi s.word, vi s.base, vi s.steps, vb s.cancel, vb s.got, vi s.e] 208 (0, 0))
/-- A latch that may be under way. -/
def BusyP (ob : Option Nat) (s : Option Latch) : SP := match ob, s with
  | none, none => fun h => h = hempty
  | some b, some l => LatchP b l
  | _, _ => fun _ => False
theorem g_idle {n : Fm} {env : Slots} {P : Program} {c0 : Code} {fin : Act → World → Prop} {E : Env} {L : List Chunk} {todo : List It} (g : G P c0 fin E n todo env (.sp (BusyP none none) :: L)) : G P c0 fin E n todo env L :=
  g_imp (fun w s => s.imp (M := .sp (BusyP none none) :: L) fun h d => ⟨hempty, h, Dj.empty_left h, (hu_empty_left h).symm, rfl, d⟩) g
theorem g_progs {n : Fm} {env : Slots} {P : Program} {c0 : Code} {fin : Act → World → Prop} {E : Env} {L : List Chunk} {todo : List It} (is : List Nat) {a : Option Addr} {cap : Nat} {rows : List (RowR Instr)} {rawss : List (List InR)} {ps : List (List Instr)}
    (h : takeOf is L = some [.sp (Sl 39 1 encR1 a cap rows), .sp (Many ProgQ rows rawss)]) (hf : ProgsF rows rawss) (hp : rows.map RowR.l = ps) (hs : ps.length ≤ 1099511627776)
    (g : G P c0 fin E n todo env (.sp (ProgsP a cap ps) :: restOf is L)) : G P c0 fin E n todo env L := by
  intro a' w f s
  have s1 := sat_takeOf h s
  have hc : ps.length ≤ cap := by
    obtain ⟨_, _, _, k, hk, x, y, d, rfl, ⟨_, hx, _⟩, q⟩ := s1
    rw [← hp]; simpa using hx
  have s2 := s1.pack
  refine g a' w f ?_
  exact sat.close (F := ProgsPF a cap ps) _ (s2.add_prp (progs_rows hf hp hc hs))

def HandPF (p : Nat) (kb : Nat) (s : Hand) : (Option Addr) × Nat × (Option Addr) × Nat × (Option Addr) × Nat × (Option Addr) × Nat × (Option Addr) × Nat × Nat × (Option Nat) × Nat → List Chunk := fun (ra, rc, da, dc, wa, wc, ha, hc, pa, pc, lb, ob, mb) => [.obj p (.cells #[vi s.pc, vi s.fin, .slice ra s.regs.length rc, .slice da s.read.length dc, .slice wa s.wrote.length wc, .slice ha s.ahead.length hc, vb s.pushed, pt kb 0, vi s.t, .slice pa s.progs.length pc, vi s.phase, vi s.prog, vi s.tri, vi s.ticket, vi s.cause, pt lb 0, vi s.askedN, vi s.askedM, pto ob, vi s.node, .map (some mb)] 101 (0, 0)), .sp (Sl 3 1 encI ra rc s.regs), .sp (Sl 64 2 encA da dc s.read), .sp (Sl 64 2 encA wa wc s.wrote), .sp (Sl 3 1 encI ha hc s.ahead), .sp (ProgsP pa pc s.progs), .sp (LogP lb s.log), .sp (BusyP ob s.busy), .sp (MapP mb vi s.latched)]
def HandP (p : Nat) (kb : Nat) (s : Hand) : SP := ex (HandPF p kb s)

theorem c_undo_New (n : Int) (h0 : 1 ≤ n) (h1 : n ≤ 1000) : Ct Tryz.prog 54 [vi n] [] (fun x : Nat => match x with | p => .tuple #[pt p 0, vi 0]) (fun x => match x with | p => [.sp (LogP p (Log.mk [] n))]) := by
  refine ct_intro Tryz.f54 13 Tryz.func54 rfl rfl rfl (fun E R => ?_)
  refine g_adv 11 [.o 12 3, .c 13, .c 7] 1 [(0, vi n), (6, vb (decide (n < 1)))] (by kernel_rfl) ?_
  refine g_bool 6 (decide (n < 1)) (by kernel_rfl) (fun h1 => ?_) (fun h1 => ?_)
  · have h1p : n < 1 := of_decide_eq_true h1
    (exfalso; omega)
  · have h1p : ¬ (n < 1) := of_decide_eq_false h1
    refine g_adv 4 [] 1 [(0, vi n), (9, vb (decide (n > 1000)))] (by kernel_rfl) ?_
    refine g_cond (decide (n > 1000)) (by kernel_rfl) (fun h2 => ?_) (fun h2 => ?_)
    · have h2p : n > 1000 := of_decide_eq_true h2
      (exfalso; omega)
    · have h2p : ¬ (n > 1000) := of_decide_eq_false h2
      refine g_adv 5 [.o 14 2, .c 15] 2 [(11, .agg #[.slice none 0 0, vi n])] (by kernel_rfl) ?_
      refine g_op (by kernel_rfl) (ot_new #[.slice none 0 0, vi n] 161 (by kernel_rfl) ?_)
      intro b1
      refine g_adv 4 [] 2 [(2, pt b1 0), (3, vi 0)] (by kernel_rfl) ?_
      refine g_nil 64 2 encA (fun _ => rfl) ?_
      refine g_close (LogPF b1 (Log.mk [] n)) (none, 0) [1, 0] (by kernel_rfl) ?_
      refine g_post b1 [0, 0] [pt b1 0, vi 0] (.tmp (by kernel_rfl) (.tmp (by kernel_rfl) .nil)) (rfl) (by kernel_rfl)

theorem c_core_parts_Conf (p : Nat) (s : Parts) : Ct Tryz.prog 55 [pt p 0] [.sp (PartsP p s)] (fun _ : Unit => .agg #[vi s.conf.regions, vi s.conf.objects, vi s.conf.stripes, vi s.conf.width, vi s.conf.threads, vi s.conf.slots, vi s.conf.regs, vi s.conf.locks, vi s.conf.undo, vi s.conf.escalate, vi s.conf.tickets, vi s.conf.policy]) (fun _ => [.sp (PartsP p s)]) := by
  refine ct_intro Tryz.f55 7 Tryz.func55 rfl rfl rfl (fun E R => ?_)
  refine g_adv 2 [.o 2 0, .c 3] 1 [(0, pt p 0)] (by kernel_rfl) ?_
  refine g_op (by kernel_rfl) (ot_new #[vi 0, vi 0, vi 0, vi 0, vi 0, vi 0, vi 0, vi 0, vi 0, vi 0, vi 0, vi 0] 25 (by kernel_rfl) ?_)
  intro b1
  refine g_adv 6 [.o 6 3, .c 7] 2 [(2, pt b1 0), (5, pt p 0)] (by kernel_rfl) ?_
  refine g_open 1 (PartsPF p s) (by kernel_rfl) ?_
  rintro ⟨cb1, tb1, db1, nb1, sb1⟩
  refine g_op (by kernel_rfl) (ot_loadA 0 p 0 [vi s.conf.regions, vi s.conf.objects, vi s.conf.stripes, vi s.conf.width, vi s.conf.threads, vi s.conf.slots, vi s.conf.regs, vi s.conf.locks, vi s.conf.undo, vi s.conf.escalate, vi s.conf.tickets, vi s.conf.policy] (by kernel_rfl) (by kernel_rfl) ?_)
  refine g_op (by kernel_rfl) (ot_store 6 b1 0 [vi s.conf.regions, vi s.conf.objects, vi s.conf.stripes, vi s.conf.width, vi s.conf.threads, vi s.conf.slots, vi s.conf.regs, vi s.conf.locks, vi s.conf.undo, vi s.conf.escalate, vi s.conf.tickets, vi s.conf.policy] (by kernel_rfl) (by kernel_rfl) ?_)
  refine g_adv 2 [] 2 [(2, pt b1 0)] (by kernel_rfl) ?_
  refine g_close (PartsPF p s) (cb1, tb1, db1, nb1, sb1) [0, 0, 0, 0, 0, 0] (by kernel_rfl) ?_
  refine g_post () [0, 1] [.agg #[vi s.conf.regions, vi s.conf.objects, vi s.conf.stripes, vi s.conf.width, vi s.conf.threads, vi s.conf.slots, vi s.conf.regs, vi s.conf.locks, vi s.conf.undo, vi s.conf.escalate, vi s.conf.tickets, vi s.conf.policy]] (.cell (ci := 1) (b := b1) (u := [vi s.conf.regions, vi s.conf.objects, vi s.conf.stripes, vi s.conf.width, vi s.conf.threads, vi s.conf.slots, vi s.conf.regs, vi s.conf.locks, vi s.conf.undo, vi s.conf.escalate, vi s.conf.tickets, vi s.conf.policy]) (by kernel_rfl) (by kernel_rfl) (by kernel_rfl) (by kernel_rfl) .nil) (rfl) (by kernel_rfl)

theorem c_hand_New (kb : Nat) (t : Int) (a : Option Addr) (cp : Nat) (ps : List (List Instr)) (X : SP) (k : Core) (hp : RProgs X ⟨a, cp, ps⟩) (hk : k.parts.conf.Ok) : Ct Tryz.prog 11 [pt kb 0, vi t, .slice a ps.length cp] [.sp X, .sp (CoreP kb k)] (fun x : Nat => match x with | p => pt p 0) (fun x => match x with | p => [.sp (HandP p kb (newHand t ps k.parts.conf.undo)), .sp X, .sp (CoreP kb k)]) := by
  refine ct_intro Tryz.f11 64 Tryz.func11 rfl rfl rfl (fun E R => ?_)
  have hp2 := hp
  have hu := hk.undo
  have hh1 := hp2
  obtain ⟨hcap1, hsm1, raws1, he1, hr1, hall1⟩ := hh1
  try dsimp only at hcap1 hsm1
  have he1 : ps = raws1.map RowR.l := he1
  have hlen1 : ps.length = raws1.length := by rw [he1, List.length_map]
  refine g_adv 8 [.o 6 2, .c 7] 1 [(0, pt kb 0), (2, .slice a ps.length cp), (13, pt kb 0), (14, vi t)] (by kernel_rfl) ?_
  refine g_op (by kernel_rfl) (ot_mapP vi (by kernel_rfl) ?_)
  intro m1
  refine g_adv 1 [.o 6 4] 1 [(0, pt kb 0), (2, .slice a ps.length cp), (16, .agg #[vi 0, vi 0, .slice none 0 0, .slice none 0 0, .slice none 0 0, .slice none 0 0, vb false, pt kb 0, vi t, .slice none 0 0, vi 0, vi 0, vi 0, vi 0, vi 0, .pointer none, vi 0, vi 0, .pointer none, vi (-1), .map (some m1)])] (by kernel_rfl) ?_
  refine g_op (by kernel_rfl) (ot_new #[vi 0, vi 0, .slice none 0 0, .slice none 0 0, .slice none 0 0, .slice none 0 0, vb false, pt kb 0, vi t, .slice none 0 0, vi 0, vi 0, vi 0, vi 0, vi 0, .pointer none, vi 0, vi 0, .pointer none, vi (-1), .map (some m1)] 101 (by kernel_rfl) ?_)
  intro b1
  refine g_adv 10 [.c 58, .b 0, .c 15] 2 [(0, pt kb 0), (7, pt b1 0), (18, .slice a ps.length cp), (19, vi (ps.length : Int)), (20, vi 0)] (by kernel_rfl) ?_
  refine g_nil 39 1 encR1 (fun _ => rfl) ?_
  refine g_many0 ProgQ ?_
  refine g_loop' (fun (x : { x : Nat × (Option Addr) × Nat × (List (RowR Instr)) × (List (List InR)) // match x with | (i, pa, pcp, prows, rawss) => i ≤ ps.length ∧ prows.map RowR.l = ps.take i ∧ ProgsF prows rawss }) => match x.1 with | (i, pa, pcp, prows, rawss) => ([(0, pt kb 0), (7, pt b1 0), (18, .slice a ps.length cp), (19, vi (ps.length : Int)), (20, vi (i : Int))], [.obj b1 (.cells #[vi 0, vi 0, .slice none 0 0, .slice none 0 0, .slice none 0 0, .slice none 0 0, vb false, pt kb 0, vi t, .slice pa prows.length pcp, vi 0, vi 0, vi 0, vi 0, vi 0, .pointer none, vi 0, vi 0, .pointer none, vi (-1), .map (some m1)] 101 (0, 0)), .sp (MapP m1 vi []), .sp (Sl 39 1 encR1 pa pcp prows), .sp (Many ProgQ prows rawss), .sp X, .sp (CoreP kb k), .sp R])) (fun (x : { x : Nat × (Option Addr) × Nat × (List (RowR Instr)) × (List (List InR)) // match x with | (i, pa, pcp, prows, rawss) => i ≤ ps.length ∧ prows.map RowR.l = ps.take i ∧ ProgsF prows rawss }) => match x.1 with | (i, pa, pcp, prows, rawss) => ps.length - i) ⟨(0, none, 0, [], []), by exact ⟨by omega, rfl, rfl, fun i r raws h => by simp at h⟩⟩ [2, 2, 1, 0, 0, 0, 0] (by kernel_rfl) (by kernel_rfl) (by kernel_rfl) ?_
  rintro ⟨⟨i, pa, pcp, prows, rawss⟩, hi1⟩
  have hi1 : i ≤ ps.length ∧ prows.map RowR.l = ps.take i ∧ ProgsF prows rawss := hi1
  obtain ⟨hi1_0, hi1_1, hi1_2⟩ := hi1
  have hpr : prows.length = i := by rw [← List.length_map (f := RowR.l), hi1_1, List.length_take]; omega
  refine g_adv 5 [.c 466, .c 467] 1 [(0, pt kb 0), (7, pt b1 0), (18, .slice a ps.length cp), (19, vi (ps.length : Int)), (20, vi (i : Int)), (21, vb (decide ((i : Int) < (ps.length : Int))))] (by kernel_rfl) ?_
  refine g_cond (decide ((i : Int) < (ps.length : Int))) (by kernel_rfl) (fun h1 => ?_) (fun h1 => ?_)
  · have h1p : (i : Int) < (ps.length : Int) := of_decide_eq_true h1
    refine g_adv 5 [.o 3736 0, .c 3737, .b 1, .c 935] 2 [(0, pt kb 0), (7, pt b1 0), (18, .slice a ps.length cp), (19, vi (ps.length : Int)), (20, vi (i : Int))] (by kernel_rfl) ?_
    refine g_some 4 hr1 (by kernel_rfl) (by omega) ?_
    rintro b2 o1 rfl
    refine g_op (by kernel_rfl) (ot_val (pt b2 (o1 + i * 1)) (run_ix b2 o1 ps.length cp (i : Int) 1 (by kernel_rfl) (by omega) (by omega)) ?_)
    obtain ⟨⟨xa1, xc1, xl1⟩, hx1⟩ : ∃ x, raws1[i]? = some x := ⟨_, List.getElem?_eq_getElem (by omega)⟩
    have hq1 := hall1 (RowR.mk xa1 xc1 xl1) (List.mem_of_getElem? hx1)
    refine g_op (by kernel_rfl) (ot_loadS 4 b2 o1 i 0 (o1 + i * 1) (.slice xa1 xl1.length xc1) hr1 (by kernel_rfl) (by kernel_rfl) (by rfl) hx1 (by rfl) ?_)
    have hh2 := hq1
    obtain ⟨hcap2, hsm2, raws2, he2, hr2, hall2⟩ := hh2
    try dsimp only at hcap2 hsm2
    have he2 : xl1 = raws2.map InR.ins := he2
    have hlen2 : xl1.length = raws2.length := by rw [he2, List.length_map]
    refine g_adv 14 [.c 59802, .b 2, .c 14951] 2 [(0, pt kb 0), (7, pt b1 0), (10, .slice none 0 0), (18, .slice (some ⟨b2, o1, none⟩) ps.length cp), (19, vi (ps.length : Int)), (20, vi (i : Int)), (24, .slice xa1 xl1.length xc1), (25, vi (xl1.length : Int)), (26, vi 0)] (by kernel_rfl) ?_
    refine g_nil 38 5 encN (fun _ => rfl) ?_
    refine g_many0 LstQ ?_
    refine g_loop' (fun (x : { x : Nat × (Option Addr) × Nat × (List InR) // match x with | (j, la, lc, rq) => j ≤ xl1.length ∧ rq.map InR.ins = xl1.take j ∧ RowF rq }) => match x.1 with | (j, la, lc, rq) => ([(0, pt kb 0), (7, pt b1 0), (10, .slice la rq.length lc), (18, .slice (some ⟨b2, o1, none⟩) ps.length cp), (19, vi (ps.length : Int)), (20, vi (i : Int)), (24, .slice xa1 xl1.length xc1), (25, vi (xl1.length : Int)), (26, vi (j : Int))], [.obj b1 (.cells #[vi 0, vi 0, .slice none 0 0, .slice none 0 0, .slice none 0 0, .slice none 0 0, vb false, pt kb 0, vi t, .slice pa prows.length pcp, vi 0, vi 0, vi 0, vi 0, vi 0, .pointer none, vi 0, vi 0, .pointer none, vi (-1), .map (some m1)] 101 (0, 0)), .sp (MapP m1 vi []), .sp (Sl 39 1 encR1 pa pcp prows), .sp (Many ProgQ prows rawss), .sp X, .sp (CoreP kb k), .sp R, .sp (Sl 38 5 encN la lc rq), .sp (Many LstQ rq rq)])) (fun (x : { x : Nat × (Option Addr) × Nat × (List InR) // match x with | (j, la, lc, rq) => j ≤ xl1.length ∧ rq.map InR.ins = xl1.take j ∧ RowF rq }) => match x.1 with | (j, la, lc, rq) => xl1.length - j) ⟨(0, none, 0, []), by exact ⟨by omega, rfl, fun x hx => by simp at hx⟩⟩ [2, 2, 2, 2, 2, 2, 2, 1, 0] (by kernel_rfl) (by kernel_rfl) (by kernel_rfl) ?_
    rintro ⟨⟨j, la, lc, rq⟩, hi2⟩
    have hi2 : j ≤ xl1.length ∧ rq.map InR.ins = xl1.take j ∧ RowF rq := hi2
    obtain ⟨hi2_0, hi2_1, hi2_2⟩ := hi2
    have hrq : rq.length = j := by rw [← List.length_map (f := InR.ins), hi2_1, List.length_take]; omega
    refine g_adv 5 [.c 478418, .c 478419] 1 [(0, pt kb 0), (7, pt b1 0), (10, .slice la rq.length lc), (18, .slice (some ⟨b2, o1, none⟩) ps.length cp), (19, vi (ps.length : Int)), (20, vi (i : Int)), (24, .slice xa1 xl1.length xc1), (25, vi (xl1.length : Int)), (26, vi (j : Int)), (27, vb (decide ((j : Int) < (xl1.length : Int))))] (by kernel_rfl) ?_
    refine g_cond (decide ((j : Int) < (xl1.length : Int))) (by kernel_rfl) (fun h2 => ?_) (fun h2 => ?_)
    · have h2p : (j : Int) < (xl1.length : Int) := of_decide_eq_true h2
      refine g_adv 5 [.o 3827352 0, .c 3827353, .b 3, .c 956839] 2 [(0, pt kb 0), (7, pt b1 0), (10, .slice la rq.length lc), (18, .slice (some ⟨b2, o1, none⟩) ps.length cp), (19, vi (ps.length : Int)), (20, vi (i : Int)), (24, .slice xa1 xl1.length xc1), (25, vi (xl1.length : Int)), (26, vi (j : Int))] (by kernel_rfl) ?_
      refine g_some 4 hr2 (by kernel_rfl) (by omega) ?_
      rintro b3 o2 rfl
      refine g_op (by kernel_rfl) (ot_val (pt b3 (o2 + j * 5)) (run_ix b3 o2 xl1.length xc1 (j : Int) 5 (by kernel_rfl) (by omega) (by omega)) ?_)
      obtain ⟨⟨xi1, xa2, xc2⟩, hx2⟩ : ∃ x, raws2[j]? = some x := ⟨_, List.getElem?_eq_getElem (by omega)⟩
      obtain ⟨hc1, hs1, hr3⟩ := hall2 (InR.mk xi1 xa2 xc2) (List.mem_of_getElem? hx2)
      refine g_op (by kernel_rfl) (ot_loadSA 4 b3 o2 j (o2 + j * 5) hr2 (by kernel_rfl) (by kernel_rfl) (by rfl) hx2 ?_)
      refine g_op (by kernel_rfl) (ot_new #[vi 0, vi 0, vi 0, vi 0, .slice none 0 0] 38 (by kernel_rfl) ?_)
      intro b4
      refine g_op (by kernel_rfl) (ot_store 0 b4 0 [vi xi1.kind, vi xi1.a, vi xi1.b, vi xi1.c, .slice xa2 xi1.l.length xc2] (by kernel_rfl) (by kernel_rfl) ?_)
      refine g_adv 4 [.o 7654706 1, .c 7654707] 2 [(0, pt kb 0), (7, pt b1 0), (10, .slice la rq.length lc), (12, pt b4 0), (18, .slice (some ⟨b2, o1, none⟩) ps.length cp), (19, vi (ps.length : Int)), (20, vi (i : Int)), (24, .slice (some ⟨b3, o2, none⟩) xl1.length xc1), (25, vi (xl1.length : Int)), (26, vi (j : Int)), (30, pt b4 4)] (by kernel_rfl) ?_
      refine g_op (by kernel_rfl) (ot_load 0 b4 4 (.slice xa2 xi1.l.length xc2) (by kernel_rfl) (by kernel_rfl) ?_)
      refine g_op (by kernel_rfl) (ot_call [5] (c_slices_Clone_int_int_ xa2 xc2 xi1.l X hr3 (by first | omega | assumption | (simp; done) | (simp; omega))) (by kernel_rfl) (by kernel_rfl) ?_)
      rintro ⟨a1, c1⟩
      refine g_cap (T := 3) (sz := 1) (enc := encI) (ad := a1) (cap := c1) (l := xi1.l) 0 (by kernel_rfl) (fun hc2 => ?_)
      refine g_adv 1 [.o 7654706 4] 1 [(0, pt kb 0), (7, pt b1 0), (10, .slice la rq.length lc), (12, pt b4 0), (18, .slice (some ⟨b2, o1, none⟩) ps.length cp), (19, vi (ps.length : Int)), (20, vi (i : Int)), (24, .slice (some ⟨b3, o2, none⟩) xl1.length xc1), (25, vi (xl1.length : Int)), (26, vi (j : Int)), (32, .slice a1 xi1.l.length c1), (33, pt b4 4)] (by kernel_rfl) ?_
      refine g_op (by kernel_rfl) (ot_store 2 b4 4 [.slice a1 xi1.l.length c1] (by kernel_rfl) (by kernel_rfl) ?_)
      refine g_adv 3 [.o 7654707 1] 2 [(0, pt kb 0), (7, pt b1 0), (12, pt b4 0), (18, .slice (some ⟨b2, o1, none⟩) ps.length cp), (19, vi (ps.length : Int)), (20, vi (i : Int)), (24, .slice (some ⟨b3, o2, none⟩) xl1.length xc1), (25, vi (xl1.length : Int)), (26, vi (j : Int)), (34, .slice la rq.length lc)] (by kernel_rfl) ?_
      refine g_op (by kernel_rfl) (ot_loadA 2 b4 0 [vi xi1.kind, vi xi1.a, vi xi1.b, vi xi1.c, .slice a1 xi1.l.length c1] (by kernel_rfl) (by kernel_rfl) ?_)
      refine g_op (by kernel_rfl) (ot_lit 38 1 #[vi xi1.kind, vi xi1.a, vi xi1.b, vi xi1.c, .slice a1 xi1.l.length c1] (by kernel_rfl) ?_)
      intro b5
      refine g_lit 0 b5 #[vi xi1.kind, vi xi1.a, vi xi1.b, vi xi1.c, .slice a1 xi1.l.length c1] 38 5 encN (fun _ => rfl) [(InR.mk (Instr.mk xi1.kind xi1.a xi1.b xi1.c xi1.l) a1 c1)] (by kernel_rfl) (by rfl) ?_
      refine g_op (by kernel_rfl) (ot_append (T := 38) (sz := 5) (enc := encN) (ad := la) (cap := lc) (l := rq) (ys := [(InR.mk (Instr.mk xi1.kind xi1.a xi1.b xi1.c xi1.l) a1 c1)]) (ya := (some ⟨b5, 0, none⟩)) (yc := 1) (Y := (Sl 38 5 encN (some ⟨b5, 0, none⟩) 1 [(InR.mk (Instr.mk xi1.kind xi1.a xi1.b xi1.c xi1.l) a1 c1)])) 10 0 56 Sl.reads (by kernel_rfl) (by kernel_rfl) (by kernel_rfl) (fun _ => rfl) (by first | omega | (simp; omega) | (simp at *; omega)) (by first | omega | (simp; omega) | (simp at *; omega)) ?_)
      intro a2 c2
      refine g_adv 5 [.o 956839 1] 3 [(0, pt kb 0), (7, pt b1 0), (10, .slice a2 ((rq ++ [(InR.mk (Instr.mk xi1.kind xi1.a xi1.b xi1.c xi1.l) a1 c1)]).length) c2), (18, .slice (some ⟨b2, o1, none⟩) ps.length cp), (19, vi (ps.length : Int)), (20, vi (i : Int)), (24, .slice (some ⟨b3, o2, none⟩) xl1.length xc1), (25, vi (xl1.length : Int)), (38, vi (wI ((j : Int) + 1)))] (by kernel_rfl) ?_
      refine g_val 38 (vi (wI ((j : Int) + 1))) (vi ((j + 1 : Nat) : Int)) (wI_eq (by omega) (by omega) (by omega)) (by kernel_rfl) ?_
      refine g_adv 2 [] 1 [(0, pt kb 0), (7, pt b1 0), (10, .slice a2 ((rq ++ [(InR.mk (Instr.mk xi1.kind xi1.a xi1.b xi1.c xi1.l) a1 c1)]).length) c2), (18, .slice (some ⟨b2, o1, none⟩) ps.length cp), (19, vi (ps.length : Int)), (20, vi (i : Int)), (24, .slice (some ⟨b3, o2, none⟩) xl1.length xc1), (25, vi (xl1.length : Int)), (26, vi ((j + 1 : Nat) : Int))] (by kernel_rfl) ?_
      refine g_close (LstQF (InR.mk (Instr.mk xi1.kind xi1.a xi1.b xi1.c xi1.l) a1 c1) (InR.mk (Instr.mk xi1.kind xi1.a xi1.b xi1.c xi1.l) a1 c1)) () [1] (by kernel_rfl) ?_
      refine g_snoc LstQ rq rq (InR.mk (Instr.mk xi1.kind xi1.a xi1.b xi1.c xi1.l) a1 c1) (InR.mk (Instr.mk xi1.kind xi1.a xi1.b xi1.c xi1.l) a1 c1) [0, 10] (by kernel_rfl) ?_
      refine g_round ⟨(j + 1, a2, c2, rq ++ [(InR.mk (Instr.mk xi1.kind xi1.a xi1.b xi1.c xi1.l) a1 c1)]), by exact ⟨by omega, by rw [take_snoc (he2 ▸ map_at hx2), List.map_append, hi2_1]; rfl, hi2_2.snoc (by assumption) (by assumption)⟩⟩ [4, 4, 4, 4, 2, 3, 3, 3, 0] (by first | omega | (simp; done) | (simp; omega)) (by kernel_rfl) (by kernel_rfl)
    · have h2p : ¬ ((j : Int) < (xl1.length : Int)) := of_decide_eq_false h2
      obtain rfl : j = xl1.length := by omega
      rw [List.take_length] at hi2_1
      refine g_cap (T := 38) (sz := 5) (enc := encN) (ad := la) (cap := lc) (l := rq) 7 (by kernel_rfl) (fun hc1 => ?_)
      refine g_val 10 (.slice la rq.length lc) (.slice la xl1.length lc) (by rw [show rq.length = xl1.length from by rw [← hi2_1, List.length_map]]) (by kernel_rfl) ?_
      refine g_adv 6 [.o 14951 4] 5 [(0, pt kb 0), (7, pt b1 0), (10, .slice la xl1.length lc), (18, .slice (some ⟨b2, o1, none⟩) ps.length cp), (19, vi (ps.length : Int)), (20, vi (i : Int)), (39, pt b1 0), (42, pt b1 9)] (by kernel_rfl) ?_
      refine g_op (by kernel_rfl) (ot_load 0 b1 9 (.slice pa prows.length pcp) (by kernel_rfl) (by kernel_rfl) ?_)
      refine g_adv 1 [.o 14951 6] 1 [(0, pt kb 0), (7, pt b1 0), (18, .slice (some ⟨b2, o1, none⟩) ps.length cp), (19, vi (ps.length : Int)), (20, vi (i : Int)), (39, pt b1 0), (43, .slice pa prows.length pcp), (44, .slice la xl1.length lc)] (by kernel_rfl) ?_
      refine g_op (by kernel_rfl) (ot_lit 39 1 #[.slice la xl1.length lc] (by kernel_rfl) ?_)
      intro b3
      refine g_lit 0 b3 #[.slice la xl1.length lc] 39 1 encR1 (fun _ => rfl) [(RowR.mk la lc xl1)] (by kernel_rfl) (by rfl) ?_
      refine g_op (by kernel_rfl) (ot_append (T := 39) (sz := 1) (enc := encR1) (ad := pa) (cap := pcp) (l := prows) (ys := [(RowR.mk la lc xl1)]) (ya := (some ⟨b3, 0, none⟩)) (yc := 1) (Y := (Sl 39 1 encR1 (some ⟨b3, 0, none⟩) 1 [(RowR.mk la lc xl1)])) 3 0 24 Sl.reads (by kernel_rfl) (by kernel_rfl) (by kernel_rfl) (fun _ => rfl) (by first | omega | (simp; omega) | (simp at *; omega)) (by first | omega | (simp; omega) | (simp at *; omega)) ?_)
      intro a1 c1
      refine g_adv 2 [.o 14951 10] 1 [(0, pt kb 0), (7, pt b1 0), (18, .slice (some ⟨b2, o1, none⟩) ps.length cp), (19, vi (ps.length : Int)), (20, vi (i : Int)), (46, .slice a1 ((prows ++ [(RowR.mk la lc xl1)]).length) c1), (48, pt b1 9)] (by kernel_rfl) ?_
      refine g_op (by kernel_rfl) (ot_store 1 b1 9 [.slice a1 ((prows ++ [(RowR.mk la lc xl1)]).length) c1] (by kernel_rfl) (by kernel_rfl) ?_)
      refine g_adv 4 [.o 935 1] 3 [(0, pt kb 0), (7, pt b1 0), (18, .slice (some ⟨b2, o1, none⟩) ps.length cp), (19, vi (ps.length : Int)), (49, vi (wI ((i : Int) + 1)))] (by kernel_rfl) ?_
      refine g_val 49 (vi (wI ((i : Int) + 1))) (vi ((i + 1 : Nat) : Int)) (wI_eq (by omega) (by omega) (by omega)) (by kernel_rfl) ?_
      refine g_adv 2 [] 1 [(0, pt kb 0), (7, pt b1 0), (18, .slice (some ⟨b2, o1, none⟩) ps.length cp), (19, vi (ps.length : Int)), (20, vi ((i + 1 : Nat) : Int))] (by kernel_rfl) ?_
      refine g_close (ProgQF (RowR.mk la lc xl1) rq) () [8, 8] (by kernel_rfl) ?_
      refine g_snoc ProgQ prows rawss (RowR.mk la lc xl1) rq [0, 4] (by kernel_rfl) ?_
      refine g_round ⟨(i + 1, a1, c1, prows ++ [(RowR.mk la lc xl1)], rawss ++ [rq]), by exact ⟨by omega, by rw [take_snoc (he1 ▸ map_at hx1), List.map_append, hi1_1]; rfl, hi1_2.snoc ⟨hi2_1.symm, by rw [← hi2_1, List.length_map]; assumption, by assumption, hi2_2⟩⟩⟩ [2, 2, 2, 0, 1, 1, 1] (by first | omega | (simp; done) | (simp; omega)) (by kernel_rfl) (by kernel_rfl)
  · have h1p : ¬ ((i : Int) < (ps.length : Int)) := of_decide_eq_false h1
    obtain rfl : i = ps.length := by omega
    rw [List.take_length] at hi1_1
    refine g_cells 0 b1 #[vi 0, vi 0, .slice none 0 0, .slice none 0 0, .slice none 0 0, .slice none 0 0, vb false, pt kb 0, vi t, .slice pa prows.length pcp, vi 0, vi 0, vi 0, vi 0, vi 0, .pointer none, vi 0, vi 0, .pointer none, vi (-1), .map (some m1)] #[vi 0, vi 0, .slice none 0 0, .slice none 0 0, .slice none 0 0, .slice none 0 0, vb false, pt kb 0, vi t, .slice pa ps.length pcp, vi 0, vi 0, vi 0, vi 0, vi 0, .pointer none, vi 0, vi 0, .pointer none, vi (-1), .map (some m1)] 101 (by kernel_rfl) (by rw [show prows.length = ps.length from by rw [← hi1_1, List.length_map]]) ?_
    refine g_progs (a := pa) (cap := pcp) (rows := prows) (rawss := rawss) (ps := ps) [2, 2] (by kernel_rfl) hi1_2 hi1_1 hsm1 ?_
    refine g_idle ?_
    refine g_adv 7 [.o 30 4, .c 31] 5 [(7, pt b1 0), (51, pt b1 0), (54, pt kb 0)] (by kernel_rfl) ?_
    refine g_open 5 (CorePF kb k) (by kernel_rfl) ?_
    rintro ⟨pb1, ta1, tc1, aa1, ac1, da1, dc1⟩
    refine g_op (by kernel_rfl) (ot_load 0 kb 0 (pt pb1 0) (by kernel_rfl) (by kernel_rfl) ?_)
    refine g_op (by kernel_rfl) (ot_call [1] (c_core_parts_Conf pb1 k.parts) (by kernel_rfl) (by kernel_rfl) ?_)
    intro _
    refine g_adv 1 [.o 30 7] 1 [(7, pt b1 0), (51, pt b1 0), (57, vi k.parts.conf.undo)] (by kernel_rfl) ?_
    refine g_op (by kernel_rfl) (ot_call [] (c_undo_New k.parts.conf.undo (by first | omega | assumption | (simp; done) | (simp; omega)) (by first | omega | assumption | (simp; done) | (simp; omega))) (by kernel_rfl) (by kernel_rfl) ?_)
    intro p1
    refine g_adv 5 [.o 30 13] 1 [(7, pt b1 0), (59, pt p1 0), (62, pt b1 15)] (by kernel_rfl) ?_
    refine g_op (by kernel_rfl) (ot_store 8 b1 15 [pt p1 0] (by kernel_rfl) (by kernel_rfl) ?_)
    refine g_adv 7 [] 2 [(6, pt b1 0)] (by kernel_rfl) ?_
    refine g_nil 3 1 encI (fun _ => rfl) ?_
    refine g_nil 64 2 encA (fun _ => rfl) ?_
    refine g_nil 64 2 encA (fun _ => rfl) ?_
    refine g_nil 3 1 encI (fun _ => rfl) ?_
    refine g_close (HandPF b1 kb (newHand t ps k.parts.conf.undo)) (none, 0, none, 0, none, 0, none, 0, pa, pcp, p1, none, m1) [12, 0, 0, 0, 0, 7, 0, 5, 5] (by kernel_rfl) ?_
    refine g_close (CorePF kb k) (pb1, ta1, tc1, aa1, ac1, da1, dc1) [2, 1, 1, 1, 1] (by kernel_rfl) ?_
    refine g_post b1 [1, 1, 0, 0] [pt b1 0] (.tmp (by kernel_rfl) .nil) (rfl) (by kernel_rfl)

end Go.Proofs
