/- What a thread holds. -/
import Derived.Test.YtkhkdedngnneiaaGreatMProg
namespace Go.Lk
open Go.Sl
structure Log where
  l : List (Int × Int)
  most : Int
structure Latch where
  conf : Conf
  node : Int
  thread : Int
  st : Int
  good : Bool
  reading : Bool
  word : Int
  base : Int
  steps : Int
  cancel : Bool
  got : Bool
  e : Int
structure Hand where
  pc : Int
  fin : Int
  regs : List Int
  read : List (Int × Int)
  wrote : List (Int × Int)
  ahead : List Int
  pushed : Bool
  t : Int
  progs : List (List Instr)
  phase : Int
  prog : Int
  tri : Int
  ticket : Int
  cause : Int
  log : Log
  askedN : Int
  askedM : Int
  busy : Option Latch
  node : Int
  latched : List (Int × Int)
def newHand (t : Int) (ps : List (List Instr)) (most : Int) : Hand :=
  ⟨0, 0, [], [], [], [], false, t, ps, 0, 0, 0, 0, 0, ⟨[], most⟩, 0, 0, none, -1, []⟩
/-- A pointer, or nil. -/
def pto (o : Option Nat) : Value := match o with
  | none => .pointer none
  | some b => pt b 0
/-! What is read of a part is read of the whole. -/
section whole
variable {α : Type} {X Y Z : SP} {sz : Nat} {enc : α → List Value} {a : Option Addr} {l : List α}
theorem hu_left_some {h k : HM} {b : Nat} {o : Obj} (e : h b = some o) : hu h k b = some o := by simp [hu, e]
theorem hu_right_some {h k : HM} (d : Dj h k) {b : Nat} {o : Obj} (e : k b = some o) : hu h k b = some o := by rw [hu_comm d]; simp [hu, e]
/-- X is a part of Y. -/
def PartOf (X Y : SP) : Prop := ∀ h, Y h → ∃ k, X k ∧ ∀ b o, k b = some o → h b = some o
theorem PartOf.refl : PartOf X X := fun h hx => ⟨h, hx, fun _ _ e => e⟩
theorem PartOf.trans (p : PartOf X Y) (q : PartOf Y Z) : PartOf X Z := fun h hz => by
  obtain ⟨k, hk, s⟩ := q h hz
  obtain ⟨m, hm, t⟩ := p k hk
  exact ⟨m, hm, fun b o e => s b o (t b o e)⟩
theorem PartOf.reads (p : PartOf X Y) (r : Reads X sz enc a l) : Reads Y sz enc a l := fun h hy => by
  obtain ⟨k, hk, s⟩ := p h hy
  obtain ⟨h1, h2 | ⟨b, pre, post, T, fz, e, hb⟩⟩ := r k hk
  · exact ⟨h1, .inl h2⟩
  · exact ⟨h1, .inr ⟨b, pre, post, T, fz, e, s _ _ hb⟩⟩
theorem PartOf.star_left : PartOf X (star X Y) := fun h ⟨x, y, d, e, hx, hy⟩ => ⟨x, hx, fun b o q => by rw [e]; exact hu_left_some q⟩
theorem PartOf.star_right : PartOf Y (star X Y) := fun h ⟨x, y, d, e, hx, hy⟩ => ⟨y, hy, fun b o q => by rw [e]; exact hu_right_some d q⟩
theorem PartOf.dens {L : List Chunk} {c : Chunk} (h : c ∈ L) : PartOf c.den (dens L) := by
  induction L with
  | nil => simp at h
  | cons d L ih =>
    rcases List.mem_cons.1 h with rfl | h
    · exact PartOf.star_left
    · exact (ih h).trans PartOf.star_right
theorem PartOf.many {κ β : Type} {Q : κ → β → SP} {ps : List κ} {xs : List β} {i : Nat} {p : κ} {x : β} (hp : ps[i]? = some p) (hx : xs[i]? = some x) : PartOf (Q p x) (Many Q ps xs) := fun h m => by
  obtain ⟨u, v, d, rfl, hu', hv⟩ := Many.out hp hx h m
  exact ⟨u, hu', fun b o q => hu_left_some q⟩
theorem RInstr.part {r : InR} (p : PartOf X Y) (h : RInstr X r) : RInstr Y r := ⟨h.1, h.2.1, p.reads h.2.2⟩
theorem RProg.part {r : RowR Instr} (p : PartOf X Y) (h : RProg X r) : RProg Y r := by
  obtain ⟨h1, h2, raws, h3, h4, h5⟩ := h
  exact ⟨h1, h2, raws, h3, p.reads h4, fun r hr => (h5 r hr).part p⟩
theorem RProgs.part {r : RowR (List Instr)} (p : PartOf X Y) (h : RProgs X r) : RProgs Y r := by
  obtain ⟨h1, h2, raws, h3, h4, h5⟩ := h
  exact ⟨h1, h2, raws, h3, p.reads h4, fun r hr => (h5 r hr).part p⟩
end whole
end Go.Lk
