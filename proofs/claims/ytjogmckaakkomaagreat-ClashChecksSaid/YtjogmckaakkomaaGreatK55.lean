/- A call opened out of an argument. No condition. -/
import Derived.Test.YtjogmckaakkomaaGreatK42
import Derived.OpenShut
import Derived.Deep.Fields
namespace Go.Proofs.YtjogmckaakkomaaGreat
open Go.ChangeShapes Go.WideShapes Go.ChangeAt Go.RowKit Go.Joins Go.Shelf Go.Maps Go.Deep

theorem list6 {α : Type} {l : List α} (h : l.length = 6) : ∃ a b c d e f, l = [a, b, c, d, e, f] := by
 match l, h with
 | [a, b, c, d, e, f], _ => exact ⟨a, b, c, d, e, f, rfl⟩
theorem cells_one : Tryz.prog.cellsOf 22 = 1 ∧ Tryz.prog.cellsOf 3 = 1 ∧ Tryz.prog.cellsOf 4 = 1 ∧ Tryz.prog.cellsOf 23 = 1 ∧ Tryz.prog.cellsOf 5 = 1 ∧ Tryz.prog.cellsOf 25 = 6 := ⟨by kernel_rfl, by kernel_rfl, by kernel_rfl, by kernel_rfl, by kernel_rfl, by kernel_rfl⟩
theorem byte_one : Tryz.prog.bytesOf 5 = 1 := by kernel_rfl
/-- A slice of bytes that came in is whole, and as long as its weight says at most. -/
theorem hold_open {H : Type} {enc : TypeId × Value → H} {w : World} {base fuel : Nat} {held : Bool} {c : Value} {x : DataW H × List MemPlace}
  (h : DataW.trod enc Tryz.prog w base (fun _ => true) held fuel 23 [c] = some x) (hlt : ∀ p ∈ x.2, p.block < w.heap.size) :
  ∃ zs, Hold w c zs ∧ ((∀ q ∈ x.1.weights Tryz.prog 23, q ≤ reachBytes) → zs.length ≤ reachBytes) := by
 rcases open_ints Tryz.underlying23 Tryz.underlying5 cells_one.2.2.2.2.1 h with ⟨hcs, hx⟩ | ⟨a, len, cap, zs, hcs, hb, hl, hm, hz, hx, hcell, hwz⟩
 ·simp only [List.cons.injEq, and_true] at hcs
  subst hcs
  exact ⟨[], Hold.nil w, fun _ => Nat.zero_le _⟩
 ·simp only [List.cons.injEq, and_true] at hcs
  subst hcs
  simp at hz
  have hlen : (zs.take len).length = len := by rw [List.length_take]; omega
  refine ⟨zs.take len, ⟨fun z hzm => bounds_u8 (hwz z (List.mem_of_mem_take hzm)), .inr ⟨a, cap, by rw [hlen], by omega, hm, ?_⟩⟩, fun hq => ?_⟩
  ·by_cases h0 : len = 0
   ·exact .inl (by rw [h0]; rfl)
   ·obtain ⟨b, off, rfl, hc2⟩ := ints_at hcell (by omega)
    refine .inr ⟨b, off, rfl, ?_, ?_⟩
    ·have h1 : MemPlace.cell b off ∈ x.2 := by
      rw [hx]
      simp only [MemPlace.row]
      exact List.mem_map.2 ⟨0, by simp; omega, by simp⟩
     exact hlt _ h1
    ·intro i hi
     rw [hlen] at hi
     rw [hc2 i (by omega)]
     unfold nthz
     simp [hi]
  ·have h1 := hq (((lits (H := H) .u8 (zs.take len)).length + (lits (H := H) .u8 (zs.drop len)).length) * Tryz.prog.bytesOf 5) (by
    rw [hx]
    unfold DataW.weights
    rw [Tryz.underlying23]
    exact List.mem_cons_self)
   rw [byte_one] at h1
   have e : (lits (H := H) .u8 (zs.take len)).length = (zs.take len).length := by simp [lits]
   omega
set_option maxRecDepth 100000 in
theorem open_call {H : Type} {enc : TypeId × Value → H} {w : World} {base b0 : Nat} {r : Reach} {held : Bool} {v : Value} {d : DataW H} {ps : List MemPlace}
  (hv : Value.okWide Tryz.prog w r b0 25 v) (h : DataW.Trod enc Tryz.prog w base (fun _ => true) held 25 v d ps) (hlt : ∀ p ∈ ps, p.block < w.heap.size)
  (hw : ∀ q ∈ d.weights Tryz.prog 25, q ≤ reachBytes) : ∃ c, CallAt w v c ∧ (c.data.length : Int) ≤ 140737488355200 := by
 obtain ⟨cs0, rfl, hsz⟩ := okWide_struct Tryz.underlying25 hv
 obtain ⟨fuel, hf0⟩ := h
 obtain ⟨xs, n, _, hx, hlen, hxl, hf⟩ := DataW.trod_struct Tryz.underlying25 hf0
 rw [cells_one.2.2.2.2.2] at hlen
 obtain ⟨c0, c1, c2, c3, c4, c5, ecs⟩ := list6 hlen
 rw [ecs] at hf
 obtain ⟨y0, y1, y2, y3, y4, y5, rfl⟩ := list6 (l := xs) (by rw [hxl]; rfl)
 simp only [Prod.mk.injEq] at hx
 obtain ⟨rfl, rfl⟩ := hx
 have g0 : DataW.trod enc Tryz.prog w base (fun _ => true) held n 22 [c0] = some y0 := by
  have g : DataW.trod enc Tryz.prog w base (fun _ => true) held n 22 (([c0, c1, c2, c3, c4, c5].drop 0).take (Tryz.prog.cellsOf 22)) = some y0 := hf 0 _ rfl
  rw [cells_one.1] at g
  exact g
 have g1 : DataW.trod enc Tryz.prog w base (fun _ => true) held n 23 [c1] = some y1 := by
  have g : DataW.trod enc Tryz.prog w base (fun _ => true) held n 23 (([c0, c1, c2, c3, c4, c5].drop 1).take (Tryz.prog.cellsOf 23)) = some y1 := hf 1 _ rfl
  rw [cells_one.2.2.2.1] at g
  exact g
 have g2 : DataW.trod enc Tryz.prog w base (fun _ => true) held n 23 [c2] = some y2 := by
  have g : DataW.trod enc Tryz.prog w base (fun _ => true) held n 23 (([c0, c1, c2, c3, c4, c5].drop 2).take (Tryz.prog.cellsOf 23)) = some y2 := hf 2 _ rfl
  rw [cells_one.2.2.2.1] at g
  exact g
 have g3 : DataW.trod enc Tryz.prog w base (fun _ => true) held n 4 [c3] = some y3 := by
  have g : DataW.trod enc Tryz.prog w base (fun _ => true) held n 4 (([c0, c1, c2, c3, c4, c5].drop 3).take (Tryz.prog.cellsOf 4)) = some y3 := hf 3 _ rfl
  rw [cells_one.2.2.1] at g
  exact g
 have g4 : DataW.trod enc Tryz.prog w base (fun _ => true) held n 3 [c4] = some y4 := by
  have g : DataW.trod enc Tryz.prog w base (fun _ => true) held n 3 (([c0, c1, c2, c3, c4, c5].drop 4).take (Tryz.prog.cellsOf 3)) = some y4 := hf 4 _ rfl
  rw [cells_one.2.1] at g
  exact g
 have g5 : DataW.trod enc Tryz.prog w base (fun _ => true) held n 23 [c5] = some y5 := by
  have g : DataW.trod enc Tryz.prog w base (fun _ => true) held n 23 (([c0, c1, c2, c3, c4, c5].drop 5).take (Tryz.prog.cellsOf 23)) = some y5 := hf 5 _ rfl
  rw [cells_one.2.2.2.1] at g
  exact g
 clear hf
 have hp : ∀ y ∈ [y0, y1, y2, y3, y4, y5], ∀ p ∈ y.2, p.block < w.heap.size := fun y hy p hp => hlt p (List.mem_flatMap.2 ⟨y, hy, hp⟩)
 obtain ⟨k, e0, -, -⟩ := DataW.trod_int Tryz.underlying22 g0
 obtain ⟨b, e3, -⟩ := DataW.trod_bool Tryz.underlying4 g3
 obtain ⟨o, e4, -, -⟩ := DataW.trod_int Tryz.underlying3 g4
 obtain ⟨z1, h1, -⟩ := hold_open g1 (hp y1 (by simp))
 obtain ⟨z2, h2, -⟩ := hold_open g2 (hp y2 (by simp))
 obtain ⟨z5, h5, hl⟩ := hold_open g5 (hp y5 (by simp))
 simp only [List.cons.injEq, and_true] at e0 e3 e4
 subst e0 e3 e4
 refine ⟨⟨k, z1, z2, b, o, z5⟩, ⟨c1, c2, c5, ?_, h1, h2, h5⟩, ?_⟩
 ·unfold callC
  have : cs0 = #[Value.int .i64 k, c1, c2, .bool b, .int .i64 o, c5] := by
   have e : cs0.toList = [Value.int .i64 k, c1, c2, .bool b, .int .i64 o, c5] := by simpa [Value.cells] using ecs
   rw [← Array.toArray_toList (xs := cs0), e]
  rw [this]
 ·have := hl (fun q hq => hw q (by
   unfold DataW.weights
   rw [Tryz.underlying25]
   simp only [List.map_cons, List.map_nil, DataW.weightsEach]
   simp [hq]))
  unfold reachBytes at this
  show (z5.length : Int) ≤ _
  omega
end Go.Proofs.YtjogmckaakkomaaGreat
