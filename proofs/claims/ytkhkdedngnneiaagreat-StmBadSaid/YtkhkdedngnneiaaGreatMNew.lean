/- What the machine's parts hold. -/
import Derived.Test.YtkhkdedngnneiaaGreatMShape
import Derived.Test.YtkhkdedngnneiaaGreatSlMany
namespace Go.Lk
open Go.Sl
structure Cells where
  w : List Int
  count : Int
structure Lane where
  holders : List (Int × Int)
  queue : List (Int × Int)
structure Table where
  spots : List Lane
  most : Int
  pl : List (Int × Int)
structure Desk where
  given : Int
  most : Int
structure Naps where
  m : List (Int × List (Int × Int))
structure Ev where
  kind : Int
  thread : Int
  prog : Int
  tri : Int
  ticket : Int
  step : Int
  cause : Int
  reads : List (Int × Int)
  writes : List (Int × Int)
  regs : List Int
structure Story where
  all : List Ev
structure Parts where
  conf : Conf
  cells : Cells
  table : Table
  desk : Desk
  naps : Naps
  story : Story
structure Core where
  parts : Parts
  tickets : List Int
  active : List Bool
  dooms : List Int
  now : Int
/-- Two numbers. -/
def encA (x : Int × Int) : List Value := [vi x.1, vi x.2]
/-- A pointer to a block's start. -/
def encP (b : Nat) : List Value := [pt b 0]
structure EvR where
  e : Ev
  ra : Option Addr
  rc : Nat
  wa : Option Addr
  wc : Nat
  ga : Option Addr
  gc : Nat
def encE (x : EvR) : List Value := [vi x.e.kind, vi x.e.thread, vi x.e.prog, vi x.e.tri, vi x.e.ticket, vi x.e.step, vi x.e.cause,
  .slice x.ra x.e.reads.length x.rc, .slice x.wa x.e.writes.length x.wc, .slice x.ga x.e.regs.length x.gc]
def encM (b : Nat) : Value := .map (some b)
/-- A new machine's parts. -/
def newCells (n : Int) : Cells := ⟨List.replicate n.toNat 0, 0⟩
def filled (n : Int) (l : List Int) : Cells := ⟨l ++ List.replicate (n.toNat - l.length) 0, 0⟩
def newLane : Lane := ⟨[], []⟩
def newTable (n : Int) (most : Int) : Table := ⟨List.replicate n.toNat newLane, most, []⟩
def newCore (c : Conf) (heap : List Int) : Core :=
  ⟨⟨c, filled (cellsN c) heap, newTable (nodes c) c.locks, ⟨0, c.tickets⟩, ⟨[]⟩, ⟨[]⟩⟩,
   List.replicate c.threads.toNat 0, List.replicate c.threads.toNat false, List.replicate c.threads.toNat 0, 0⟩
/-- How large a new one may be. -/
def coreErr (c : Conf) (heap : List Int) : Int := if check c = 0 ∧ (heap.length : Int) = words c then 0 else 1
end Go.Lk
