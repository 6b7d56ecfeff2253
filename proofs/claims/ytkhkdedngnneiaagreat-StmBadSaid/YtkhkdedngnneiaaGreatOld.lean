/- The memory that a call finds: read, and kept. -/
import Derived.Test.YtkhkdedngnneiaaGreatMProg
import Derived.Below
namespace Go.Sl
/-- All the blocks that a world has. -/
def Old (W : World) : SP := fun h => h = fun b => W.heap[b]?
theorem sat_old (W : World) : sat ⟨W.os, W.tape, W.output⟩ W ([.sp (Old W)] ++ [.sp fun h => h = hempty]) :=
  ⟨rfl, rfl, rfl, fun b => W.heap[b]?, fun _ _ e => e, fun b => W.heap[b]?, hempty, Dj.empty_right _, (hu_empty_right _).symm, rfl, hempty, hempty, Dj.empty_left _, (hu_empty_left _).symm, rfl, rfl⟩
theorem below_old {W w : World} {L : List Chunk} (s : sat ⟨W.os, W.tape, W.output⟩ w ([.sp (Old W)] ++ L)) : RowKit.Below W.heap.size W w := by
  obtain ⟨h1, h2, h3, h, hs, x, y, d, rfl, hx, q⟩ := s
  have hx : x = fun b => W.heap[b]? := hx
  have hb : ∀ k, k < W.heap.size → w.heap[k]? = W.heap[k]? := fun k hk => by
    have e : W.heap[k]? = some W.heap[k] := by simp [hk]
    rw [e]
    exact hs k _ (by simp [hu, hx, hk])
  refine ⟨h1, h2, h3, ?_, hb⟩
  by_cases h0 : W.heap.size = 0
  · omega
  · have hlt : W.heap.size - 1 < W.heap.size := by omega
    have h9 := hb _ hlt
    rw [Array.getElem?_eq_getElem hlt] at h9
    have := (Array.getElem?_eq_some_iff.1 h9).1
    omega
/-- A law's walk in the frame's own words. -/
theorem law_of_ct {P : Program} {f : FuncId} {args : List Value} {v : Value} {W : World} (c : Ct P f args [.sp (Old W)] (fun _ : Unit => v) (fun _ => [.sp (Old W)])) :
    Calls P f args.toArray W fun e W' => e = .returned v ∧ RowKit.Below W.heap.size W W' :=
  (c ⟨W.os, W.tape, W.output⟩ (fun h => h = hempty) W (sat_old W)).mono fun _ _ ⟨_, he, s⟩ => ⟨he, below_old s⟩
/-- Cells that stand in a row are a slice that can be read. -/
theorem old_reads {α : Type} {sz : Nat} {enc : α → List Value} {W : World} {a : Option Addr} {l : List α} (hk : ∀ x, (enc x).length = sz)
    (h : l = [] ∨ ∃ b off, a = some ⟨b, off, none⟩ ∧ 0 < sz ∧ ∀ j v, (l.flatMap enc)[j]? = some v → W.cell? ⟨b, off + j, none⟩ = some v) : Reads (Old W) sz enc a l := by
  rintro m rfl
  refine ⟨hk, ?_⟩
  rcases h with rfl | ⟨b, off, rfl, h0, h⟩
  · exact .inl rfl
  by_cases hl : l = []
  · exact .inl hl
  right
  have hf := flat_len hk l
  have hpos : 0 < (l.flatMap enc).length := by
    rw [hf]; exact Nat.mul_pos (List.length_pos_iff.2 hl) h0
  have hc0 := h 0 _ (List.getElem?_eq_getElem hpos)
  simp only [Nat.add_zero] at hc0
  unfold World.cell? at hc0
  split at hc0
  · rename_i C T fz hb
    have hsub : ∀ j v, (l.flatMap enc)[j]? = some v → C[off + j]? = some v := fun j v hj => by
      have := h j v hj
      simpa [World.cell?, hb] using this
    have hlen : off + (l.flatMap enc).length ≤ C.size := by
      have hj := hsub ((l.flatMap enc).length - 1) _ (List.getElem?_eq_getElem (by omega))
      have := (Array.getElem?_eq_some_iff.1 hj).1
      omega
    refine ⟨b, C.toList.take off, C.toList.drop (off + (l.flatMap enc).length), T, fz, ?_, ?_⟩
    · rw [List.length_take, Nat.min_eq_left (by simp; omega)]
    · show W.heap[b]? = _
      rw [hb]
      congr 2
      apply Array.ext'
      simp only [List.toList_toArray]
      apply List.ext_getElem?
      intro i
      rw [List.append_assoc]
      have ht : (C.toList.take off).length = off := by rw [List.length_take, Nat.min_eq_left (by simp; omega)]
      by_cases h1 : i < off
      · rw [List.getElem?_append_left (by omega), List.getElem?_take, if_pos h1]
      · rw [List.getElem?_append_right (by omega), ht]
        by_cases h2 : i - off < (l.flatMap enc).length
        · rw [List.getElem?_append_left h2, List.getElem?_eq_getElem h2]
          have := hsub (i - off) _ (List.getElem?_eq_getElem h2)
          rw [show off + (i - off) = i by omega] at this
          simpa using this
        · rw [List.getElem?_append_right (by omega), List.getElem?_drop]
          congr 1; omega
  · simp at hc0
end Go.Sl
