/- StmBad: the walk in the frame's words, and the row. -/
import Derived.Test.YtkhkdedngnneiaaGreatRows
import Derived.Test.YtkhkdedngnneiaaGreatWLawbad
import Derived.Test.YtkhkdedngnneiaaGreatOld
import Derived.Test.YtkhkdedngnneiaaGreatChecked
import Derived.WalkKit
import Derived.ProofKit
import Derived.OpenShut
import Derived.Carry
namespace Go.Proofs.YtkhkdedngnneiaaGreat.stmBad
open Go.ChangeShapes Go.WideShapes Go.ChangeAt Go.RowKit
set_option linter.unusedVariables false
set_option maxRecDepth 100000
set_option linter.constructorNameAsVariable false
theorem own : ownKnob Tryz.prog.godebug = none := by kernel_rfl
theorem laidOut : laidOutB Tryz.prog = true := by kernel_rfl
theorem cells25 : Tryz.prog.cellsOf 25 = 12 := by kernel_rfl
theorem cells3 : Tryz.prog.cellsOf 3 = 1 := by kernel_rfl

section
variable {H : Type} {enc : TypeId × Value → H} {P : Program}
/-- The row's last step where 'Below' alone is known of the world. -/
theorem post_below {f : Func} {s : ChangeSpec} {apart fresh handsOn again : Bool} {W W' : World} {args : Array Value} {v : Value} {ds gs : List (DataW H)} {before pa pv : List MemPlace}
    (hW : DataW.Whole enc P f.params.toList s.vars apart W args.toList ds gs before)
    (hres : ∀ (b : Nat) (sp : Nat → Bool) (hd : Bool), DataW.TrodAll enc P W' b sp hd f.resultTypes.toList (v.resultList f.resultTypes.size) (s.fn H (ds ++ gs)).results [])
    (hargs : ∀ sp : Nat → Bool, (∀ p ∈ before, sp p.block = true) → DataW.TrodAll enc P W' 0 sp true f.params.toList args.toList (s.fn H (ds ++ gs)).args pa)
    (hvars : ∀ sp : Nat → Bool, (∀ p ∈ before, sp p.block = true) → DataW.TrodVars enc P W' sp s.vars (s.fn H (ds ++ gs)).vars pv)
    (hps : before = pa ++ pv) (hb : Below W.heap.size W W')
    (hok : ∀ (j : Nat) (t : TypeId) (r : Value), f.resultTypes[j]? = some t → (v.resultList f.resultTypes.size)[j]? = some r → Value.okWide P W' .any 0 t r) :
    s.post enc P f apart fresh handsOn again W args v W' := by
  have hlt : ∀ p ∈ before, p.block < W.heap.size := fun p hp => hW.lt p hp
  have hold : ∀ p ∈ before, (fun b => decide (b < W.heap.size)) p.block = true := fun p hp => by simpa using hlt p hp
  refine ⟨ds, gs, before, [], pa, pv, hW, hres _ _ _, hargs _ hold, hvars _ hold, World.keptBut_mono (fun p hp => ⟨hp, ?_⟩) (hb.frame (· ∈ before)), fun _ => ?_⟩
  · rw [hps, List.mem_append] at hp
    exact Or.inr hp
  · obtain ⟨_, _, _, _, _, hz, hn⟩ := hW
    refine ⟨hok, _, _, ([] ++ pa) ++ pv, ⟨[] ++ pa, pv, trodAll_append (hargs _ (fun _ _ => rfl)) (hres _ _ _), hvars _ (fun _ _ => rfl), rfl, ?_, ?_⟩, ?_⟩
    · intro b off hp
      have hin : MemPlace.cell b off ∈ before := by rw [hps]; simpa using hp
      rw [hb.frozen (hlt _ hin)]
      exact hz b off hin
    · intro ha
      have := hn ha
      rw [hps] at this
      simpa using this
    · intro p hp _
      rw [hps]
      simpa using hp
end

/-- A configuration, as it comes in. -/
theorem open_conf {H : Type} {enc : TypeId × Value → H} {w : World} {base b0 : Nat} {sp : Nat → Bool} {held : Bool} {r : Reach} {v : Value} {d : DataW H} {p : List MemPlace}
    (hv : Value.okWide Tryz.prog w r b0 25 v) (h : DataW.Trod enc Tryz.prog w base sp held 25 v d p) :
    ∃ c : Lk.Conf, v = .agg #[Sl.vi c.regions, Sl.vi c.objects, Sl.vi c.stripes, Sl.vi c.width, Sl.vi c.threads, Sl.vi c.slots, Sl.vi c.regs, Sl.vi c.locks, Sl.vi c.undo, Sl.vi c.escalate, Sl.vi c.tickets, Sl.vi c.policy] := by
  obtain ⟨cs, rfl, hsz⟩ := okWide_struct Tryz.underlying25 hv
  obtain ⟨l⟩ := cs
  have hsz' : l.length = 12 := hsz.trans cells25
  obtain ⟨fuel, hf⟩ := h
  obtain ⟨xs, n, _, hx, _, hlen, hg⟩ := DataW.trod_struct Tryz.underlying25 hf
  have each : ∀ i, i < 12 → ∃ z, l[i]? = some (.int .i64 z) := by
    intro i hi
    have hl : l[i]? = some (l[i]'(by omega)) := by simp [hsz', hi]
    have key : ∀ (f : Field), f.type = 3 → f.offset = i → (#[{ name := "Regions", type := 3, offset := 0, embedded := false, tag := "", pkgPath := "", byteOffset := 0 }] : Array Field) = #[{ name := "Regions", type := 3, offset := 0, embedded := false, tag := "", pkgPath := "", byteOffset := 0 }] → True := fun _ _ _ _ => trivial
    have hfs : ∀ (f : Field) (fs : Array Field), Tryz.prog.underlying 25 = some (.struct fs) → fs[i]? = some f → f.type = 3 ∧ f.offset = i := by
      intro f fs hu hfi
      rw [Tryz.underlying25] at hu
      simp only [Option.some.injEq, TypeDesc.struct.injEq] at hu
      subst hu
      obtain rfl | rfl | rfl | rfl | rfl | rfl | rfl | rfl | rfl | rfl | rfl | rfl : i = 0 ∨ i = 1 ∨ i = 2 ∨ i = 3 ∨ i = 4 ∨ i = 5 ∨ i = 6 ∨ i = 7 ∨ i = 8 ∨ i = 9 ∨ i = 10 ∨ i = 11 := by omega
      all_goals (simp at hfi; subst hfi; exact ⟨rfl, rfl⟩)
    have hex : ∃ f fs, Tryz.prog.underlying 25 = some (.struct fs) ∧ fs[i]? = some f ∧ DataW.trod enc Tryz.prog w base sp held n f.type ((l.drop f.offset).take (Tryz.prog.cellsOf f.type)) = xs[i]? := by
      have hi' : i < xs.length := by rw [hlen]; exact hi
      refine ⟨_, _, Tryz.underlying25, Array.getElem?_eq_getElem (by exact hi), ?_⟩
      have := hg i _ (Array.getElem?_eq_getElem (by exact hi))
      simpa [Value.cells] using this
    obtain ⟨f, fs, h1, h2, h3⟩ := hex
    obtain ⟨e1, e2⟩ := hfs f fs h1 h2
    have hi' : i < xs.length := by rw [hlen]; exact hi
    rw [e1, e2, cells3, List.getElem?_eq_getElem hi'] at h3
    obtain ⟨z, hz, _⟩ := DataW.trod_int Tryz.underlying3 h3
    refine ⟨z, ?_⟩
    rw [List.take_one, List.head?_drop] at hz
    rw [hl] at hz ⊢
    simpa using hz
  match l, hsz', each with
  | [c0, c1, c2, c3, c4, c5, c6, c7, c8, c9, c10, c11], _, each =>
    obtain ⟨z0, h0⟩ := each 0 (by omega)
    obtain ⟨z1, h1⟩ := each 1 (by omega)
    obtain ⟨z2, h2⟩ := each 2 (by omega)
    obtain ⟨z3, h3⟩ := each 3 (by omega)
    obtain ⟨z4, h4⟩ := each 4 (by omega)
    obtain ⟨z5, h5⟩ := each 5 (by omega)
    obtain ⟨z6, h6⟩ := each 6 (by omega)
    obtain ⟨z7, h7⟩ := each 7 (by omega)
    obtain ⟨z8, h8⟩ := each 8 (by omega)
    obtain ⟨z9, h9⟩ := each 9 (by omega)
    obtain ⟨z10, h10⟩ := each 10 (by omega)
    obtain ⟨z11, h11⟩ := each 11 (by omega)
    simp at h0 h1 h2 h3 h4 h5 h6 h7 h8 h9 h10 h11
    refine ⟨⟨z0, z1, z2, z3, z4, z5, z6, z7, z8, z9, z10, z11⟩, ?_⟩
    rw [h0, h1, h2, h3, h4, h5, h6, h7, h8, h9, h10, h11]

/-- A slice of numbers, as it comes in. -/
theorem open_nums {H : Type} {enc : TypeId × Value → H} {W : World} {base b0 : Nat} {sp : Nat → Bool} {held : Bool} {r : Reach} {v : Value} {d : DataW H} {p : List MemPlace} (hsp : ∀ b, sp b = true)
    (hv : Value.okWide Tryz.prog W r b0 30 v) (h : DataW.Trod enc Tryz.prog W base sp held 30 v d p) :
    ∃ (a : Option Addr) (cp : Nat) (l : List Int), v = .slice a l.length cp ∧ Sl.Reads (Sl.Old W) 1 Lk.encI a l := by
  obtain ⟨a, len, cap, rfl⟩ := okWide_slice Tryz.underlying30 hv
  obtain ⟨fuel, hf⟩ := h
  rcases open_ints Tryz.underlying30 Tryz.underlying3 cells3 hf with ⟨hcs, _⟩ | ⟨a', len', cap', zs, hcs, _, hl, _, hz, _, hcell, _⟩
  · simp [Value.cells] at hcs
    obtain ⟨rfl, rfl, rfl⟩ := hcs
    exact ⟨none, 0, [], rfl, Sl.old_reads (fun _ => rfl) (.inl rfl)⟩
  · simp [Value.cells] at hcs
    obtain ⟨rfl, rfl, rfl⟩ := hcs
    rw [hsp, if_pos rfl] at hz
    have hlen : (zs.take len).length = len := by rw [List.length_take, hz, Nat.min_eq_left hl]
    refine ⟨some a', cap, zs.take len, by rw [hlen], Sl.old_reads (fun _ => rfl) ?_⟩
    by_cases h0 : zs.length = 0
    · left
      have : zs = [] := List.length_eq_zero_iff.1 h0
      simp [this]
    · obtain ⟨b, off, rfl, hc⟩ := ints_at hcell (by omega)
      right
      refine ⟨b, off, rfl, by omega, fun j v hj => ?_⟩
      have e : (zs.take len).flatMap Lk.encI = (zs.take len).map (fun x => Value.int .i64 x) := by
        induction zs.take len with
        | nil => rfl
        | cons x l ih => simp [Lk.encI, Sl.vi] at ih ⊢; exact ih
      rw [e, List.getElem?_map] at hj
      cases hq : (zs.take len)[j]? with
      | none => rw [hq] at hj; simp at hj
      | some x =>
        rw [hq] at hj; simp at hj; subst hj
        have hq2 : zs[j]? = some x := by rw [List.getElem?_take] at hq; split at hq <;> simp_all
        have hjl := (List.getElem?_eq_some_iff.1 hq2).1
        rw [hc j hjl]
        simp [List.getD, hq2]

set_option maxRecDepth 100000 in
theorem f_lifted (os : Os) (started : os.Started) (H : Type) (enc : TypeId × Value → H) :
    ReturnsInHanded {} Tryz.checked os 7 .any (Rows.stmBadSpec.pre6 enc Tryz.prog Tryz.f7 Rows.stmBadRow.domain false) (Rows.stmBadSpec.post enc Tryz.prog Tryz.f7 false true false false) := by
  refine returnsInHanded_of_change (C := Tryz.checked) own started (by kernel_rfl) Tryz.func7
    (ChangeSpec.witness6 (enc := enc) (C := Tryz.checked) false ⟨#[], #[.agg #[.int .i64 0, .int .i64 0, .int .i64 0, .int .i64 0, .int .i64 0, .int .i64 0, .int .i64 0, .int .i64 0, .int .i64 0, .int .i64 0, .int .i64 0, .int .i64 0], .slice none 0 0, .int .i64 0], []⟩ 8 (by kernel_rfl) (by kernel_rfl) (by kernel_rfl) (by kernel_rfl)) ?_
  intro W base args ds gs before hval0 hW hcnd _
  have hval : ∀ (j : Nat) t v, Tryz.f7.params[j]? = some t → args[j]? = some v → Value.okWide Tryz.prog W .any base t v := hval0
  have hW' := hW
  obtain ⟨p, q, hA0, hV, rfl, hfz, hnd⟩ := hW
  have hA : DataW.TrodAll enc Tryz.prog W 0 (fun _ => true) true Tryz.f7.params.toList args.toList ds p := hA0
  rw [Tryz.params7] at hA hval
  obtain ⟨v0, v1, v2, d0, d1, d2, p0, p1, p2, rfl, rfl, rfl, h0, h1, h2⟩ := trodAll_three hA
  obtain ⟨rfl, rfl⟩ := trodVars_none hV
  obtain ⟨c, rfl⟩ := open_conf (hval 0 25 v0 rfl rfl) h0
  obtain ⟨a, cp, l, rfl, hr⟩ := open_nums (fun _ => rfl) (hval 1 30 v1 rfl rfl) h1
  have h2k := h2
  obtain ⟨how, rfl, rfl, rfl, wh⟩ := open_int Tryz.underlying3 (hval 2 3 v2 rfl rfl) h2
  clear hA0 hval0
  simp only [List.append_nil] at hW'
  refine (Sl.law_of_ct (W := W) (c_ltklaw19_StmBad c a cp l how (Sl.Old W) hr)).mono fun e W' ⟨he, hb⟩ => ?_
  subst he
  have hlt : ∀ x ∈ p0 ++ p1, x.block < W.heap.size := fun x hx => hW'.lt x (by simpa using hx)
  refine ⟨_, rfl, post_below (pa := p0 ++ p1) (pv := []) hW' (fun _ _ _ => trodAll_mk1 (shut_bool Tryz.underlying4 _)) (fun sp hsp => ?_) (fun _ _ => rfl) (by simp) hb (ok_one (by kernel_rfl) rfl (okWide_bool_mk Tryz.underlying4 _))⟩
  have ht : ∀ {t : TypeId} {v : Value} {d : DataW H} {ps : List MemPlace}, DataW.Trod enc Tryz.prog W 0 (fun _ => true) true t v d ps → Tryz.prog.readableRec t = true → t < Tryz.prog.types.size → (∀ x ∈ ps, x ∈ p0 ++ p1) →
      DataW.Trod enc Tryz.prog W' 0 sp true t v d ps := fun h hr' hrow hin =>
    WideElems.Trod_stays laidOut hr' hrow h (fun x hx => hb.same (hlt x (hin x hx))) (fun x hx => hsp x (by simpa using hin x hx))
  have := trodAll_mk3 (ht h0 (by kernel_rfl) (of_decide_eq_true (by kernel_rfl)) (fun x hx => List.mem_append_left _ hx)) (ht h1 (by kernel_rfl) (of_decide_eq_true (by kernel_rfl)) (fun x hx => List.mem_append_right _ hx)) (shut_int Tryz.underlying3 wh)
  rw [Tryz.params7]
  have h3 : p0 ++ (p1 ++ []) = p0 ++ p1 := by simp
  simp only [List.append_nil] at this
  exact this

theorem f_holds : Rows.StmBadSaid :=
  OpenClaim.holds_of_wide 7 Tryz.f7 rfl rfl rfl rfl rfl rfl rfl ⟨rfl, rfl, rfl, rfl, rfl⟩ rfl rfl rfl rfl rfl (by kernel_rfl) Tryz.func7 (by kernel_rfl)
    (of_decide_eq_true (by kernel_rfl)) (by unfold Func.isWrapper; first | (rw [if_pos (by decide +kernel)]; kernel_rfl) | (rw [if_neg (by decide +kernel)]; exact ⟨rfl, rfl⟩))
    (fun os started H enc _ => f_lifted os started H enc)
#print axioms f_holds
end Go.Proofs.YtkhkdedngnneiaaGreat.stmBad
