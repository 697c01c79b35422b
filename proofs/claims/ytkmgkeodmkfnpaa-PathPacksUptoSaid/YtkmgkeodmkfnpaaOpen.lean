/- A tree and its lists of bytes, opened out of an argument. No condition. -/
import Derived.Test.YtkmgkeodmkfnpaaShapeA
import Derived.OpenShut
import Derived.Deep.Fields
namespace Go.Proofs.Ytkmgkeodmkfnpaa
open Go.ChangeShapes Go.WideShapes Go.ChangeAt Go.RowKit Go.Joins Go.Deep

/-- A list of bytes in memory, as a slice that came in: its bytes are zs (all that lies up to its length). -/
def ByteSl (w : World) (a : Option Addr) (len cap : Nat) (zs : List Int) : Prop :=
  len ≤ cap ∧ cap ≤ maxLen ∧ zs.length = len ∧ (∀ z ∈ zs, 0 ≤ z ∧ z ≤ 255) ∧
    (len = 0 ∨ ∃ b off, a = some ⟨b, off, none⟩ ∧ b < w.heap.size ∧ ∀ i, i < len → w.cell? ⟨b, off + i, none⟩ = some (.int .u8 (zs.getD i 0)))

section
variable {H : Type} {enc : TypeId × Value → H} {P : Program} {w : World} {base : Nat} {spare : Nat → Bool} {held : Bool}
theorem byteSl_open {t e : TypeId} {fuel : Nat} {cs : List Value} {x : DataW H × List MemPlace} (ht : P.underlying t = some (.slice e)) (he : P.underlying e = some (.int .u8)) (hc : P.cellsOf e = 1)
    (h : DataW.trod enc P w base (fun _ => true) held fuel t cs = some x) (hlt : ∀ p ∈ x.2, p.block < w.heap.size) :
    ∃ a len cap zs, cs = [.slice a len cap] ∧ ByteSl w a len cap zs := by
  rcases open_ints ht he hc h with ⟨hcs, hx⟩ | ⟨a, len, cap, zs, hcs, hb, hl, hm, hz, hx, hcell, hwz⟩
  · exact ⟨_, _, _, [], hcs, Nat.le_refl _, by unfold maxLen; omega, rfl, by simp, .inl rfl⟩
  · refine ⟨some a, len, cap, zs.take len, hcs, hl, hm, ?_, ?_, ?_⟩
    · simp at hz ⊢; omega
    · intro z hzm
      exact bounds_u8 (hwz z (List.mem_of_mem_take hzm))
    · by_cases h0 : len = 0
      · exact .inl h0
      · simp at hz
        obtain ⟨b, off, rfl, hc2⟩ := ints_at hcell (by omega)
        refine .inr ⟨b, off, rfl, ?_, ?_⟩
        · have h1 : MemPlace.cell b off ∈ x.2 := by
            rw [hx]
            simp only [MemPlace.row]
            exact List.mem_map.2 ⟨0, by simp; omega, by simp⟩
          exact hlt _ h1
        · intro i hi
          rw [hc2 i (by omega)]
          simp [hi]
end

/-- What is known of a tree that came in. -/
structure TreeIs (w : World) (t : TreeV) (kz sz pz : List Int) : Prop where
  k : -9223372036854775808 ≤ t.k ∧ t.k ≤ 9223372036854775807
  d : -9223372036854775808 ≤ t.d ∧ t.d ≤ 9223372036854775807
  f : -9223372036854775808 ≤ t.f ∧ t.f ≤ 9223372036854775807
  p : -9223372036854775808 ≤ t.p ∧ t.p ≤ 9223372036854775807
  l : 0 ≤ t.l ∧ t.l ≤ 4294967295
  i : -9223372036854775808 ≤ t.i ∧ t.i ≤ 9223372036854775807
  key : ByteSl w t.ka t.kl t.kc kz
  salt : ByteSl w t.sa t.sl t.sc sz
  pers : ByteSl w t.pa t.pl t.pc pz

theorem list9 {α : Type} {l : List α} (h : l.length = 9) : ∃ a b c d e f g i j, l = [a, b, c, d, e, f, g, i, j] := by
  match l, h with
  | [a, b, c, d, e, f, g, i, j], _ => exact ⟨a, b, c, d, e, f, g, i, j, rfl⟩

theorem cells_kind : Try.prog.cellsOf 22 = 1 := by kernel_rfl
theorem cells_int : Try.prog.cellsOf 3 = 1 := by kernel_rfl
theorem cells_u32 : Try.prog.cellsOf 23 = 1 := by kernel_rfl
theorem cells_bytes : Try.prog.cellsOf 24 = 1 := by kernel_rfl
theorem cells_u8 : Try.prog.cellsOf 5 = 1 := by kernel_rfl
theorem cells_tree : Try.prog.cellsOf 26 = 9 := by kernel_rfl

set_option maxRecDepth 100000 in
theorem trod_tree {H : Type} {enc : TypeId × Value → H} {w : World} {base fuel : Nat} {held : Bool} {cs : List Value} {x : DataW H × List MemPlace}
    (h : DataW.trod enc Try.prog w base (fun _ => true) held fuel 26 cs = some x) (hlt : ∀ p ∈ x.2, p.block < w.heap.size) :
    ∃ t kz sz pz, TreeV.val t = .agg cs.toArray ∧ TreeIs w t kz sz pz := by
  obtain ⟨xs, n, _, hx, hlen, hxl, hf⟩ := DataW.trod_struct Try.underlying26 h
  rw [cells_tree] at hlen
  obtain ⟨c0, c1, c2, c3, c4, c5, c6, c7, c8, rfl⟩ := list9 hlen
  obtain ⟨y0, y1, y2, y3, y4, y5, y6, y7, y8, rfl⟩ := list9 (l := xs) (by rw [hxl]; rfl)
  have g0 : DataW.trod enc Try.prog w base (fun _ => true) held n 22 [c0] = some y0 := by
    have g : DataW.trod enc Try.prog w base (fun _ => true) held n 22 (([c0, c1, c2, c3, c4, c5, c6, c7, c8].drop 0).take (Try.prog.cellsOf 22)) = some y0 := hf 0 _ rfl
    rw [cells_kind] at g
    exact g
  have g1 : DataW.trod enc Try.prog w base (fun _ => true) held n 3 [c1] = some y1 := by
    have g : DataW.trod enc Try.prog w base (fun _ => true) held n 3 (([c0, c1, c2, c3, c4, c5, c6, c7, c8].drop 1).take (Try.prog.cellsOf 3)) = some y1 := hf 1 _ rfl
    rw [cells_int] at g
    exact g
  have g2 : DataW.trod enc Try.prog w base (fun _ => true) held n 3 [c2] = some y2 := by
    have g : DataW.trod enc Try.prog w base (fun _ => true) held n 3 (([c0, c1, c2, c3, c4, c5, c6, c7, c8].drop 2).take (Try.prog.cellsOf 3)) = some y2 := hf 2 _ rfl
    rw [cells_int] at g
    exact g
  have g3 : DataW.trod enc Try.prog w base (fun _ => true) held n 3 [c3] = some y3 := by
    have g : DataW.trod enc Try.prog w base (fun _ => true) held n 3 (([c0, c1, c2, c3, c4, c5, c6, c7, c8].drop 3).take (Try.prog.cellsOf 3)) = some y3 := hf 3 _ rfl
    rw [cells_int] at g
    exact g
  have g4 : DataW.trod enc Try.prog w base (fun _ => true) held n 23 [c4] = some y4 := by
    have g : DataW.trod enc Try.prog w base (fun _ => true) held n 23 (([c0, c1, c2, c3, c4, c5, c6, c7, c8].drop 4).take (Try.prog.cellsOf 23)) = some y4 := hf 4 _ rfl
    rw [cells_u32] at g
    exact g
  have g5 : DataW.trod enc Try.prog w base (fun _ => true) held n 3 [c5] = some y5 := by
    have g : DataW.trod enc Try.prog w base (fun _ => true) held n 3 (([c0, c1, c2, c3, c4, c5, c6, c7, c8].drop 5).take (Try.prog.cellsOf 3)) = some y5 := hf 5 _ rfl
    rw [cells_int] at g
    exact g
  have g6 : DataW.trod enc Try.prog w base (fun _ => true) held n 24 [c6] = some y6 := by
    have g : DataW.trod enc Try.prog w base (fun _ => true) held n 24 (([c0, c1, c2, c3, c4, c5, c6, c7, c8].drop 6).take (Try.prog.cellsOf 24)) = some y6 := hf 6 _ rfl
    rw [cells_bytes] at g
    exact g
  have g7 : DataW.trod enc Try.prog w base (fun _ => true) held n 24 [c7] = some y7 := by
    have g : DataW.trod enc Try.prog w base (fun _ => true) held n 24 (([c0, c1, c2, c3, c4, c5, c6, c7, c8].drop 7).take (Try.prog.cellsOf 24)) = some y7 := hf 7 _ rfl
    rw [cells_bytes] at g
    exact g
  have g8 : DataW.trod enc Try.prog w base (fun _ => true) held n 24 [c8] = some y8 := by
    have g : DataW.trod enc Try.prog w base (fun _ => true) held n 24 (([c0, c1, c2, c3, c4, c5, c6, c7, c8].drop 8).take (Try.prog.cellsOf 24)) = some y8 := hf 8 _ rfl
    rw [cells_bytes] at g
    exact g
  clear hf
  obtain ⟨k, e0, -, wk⟩ := DataW.trod_int Try.underlying22 g0
  obtain ⟨d, e1, -, wd⟩ := DataW.trod_int Try.underlying3 g1
  obtain ⟨f, e2, -, wf⟩ := DataW.trod_int Try.underlying3 g2
  obtain ⟨p, e3, -, wp⟩ := DataW.trod_int Try.underlying3 g3
  obtain ⟨l, e4, -, wl⟩ := DataW.trod_int Try.underlying23 g4
  obtain ⟨i, e5, -, wi⟩ := DataW.trod_int Try.underlying3 g5
  have hp : ∀ y ∈ [y0, y1, y2, y3, y4, y5, y6, y7, y8], ∀ p ∈ y.2, p.block < w.heap.size := fun y hy p hp => hlt p (by rw [hx]; exact List.mem_flatMap.2 ⟨y, hy, hp⟩)
  obtain ⟨ka, kl, kc, kz, e6, hk⟩ := byteSl_open Try.underlying24 Try.underlying5 cells_u8 g6 (hp y6 (by simp))
  obtain ⟨sa, sl, sc, sz, e7, hs⟩ := byteSl_open Try.underlying24 Try.underlying5 cells_u8 g7 (hp y7 (by simp))
  obtain ⟨pa, pl, pc, pz, e8, hq⟩ := byteSl_open Try.underlying24 Try.underlying5 cells_u8 g8 (hp y8 (by simp))
  simp only [List.cons.injEq, and_true] at e0 e1 e2 e3 e4 e5 e6 e7 e8
  subst e0 e1 e2 e3 e4 e5 e6 e7 e8
  exact ⟨⟨k, d, f, p, l, i, ka, kl, kc, sa, sl, sc, pa, pl, pc⟩, kz, sz, pz, rfl, ⟨bounds_i64 wk, bounds_i64 wd, bounds_i64 wf, bounds_i64 wp, bounds_u32 wl, bounds_i64 wi, hk, hs, hq⟩⟩

set_option maxRecDepth 100000 in
theorem open_tree {H : Type} {enc : TypeId × Value → H} {w : World} {base b0 : Nat} {r : Reach} {held : Bool} {v : Value} {d : DataW H} {ps : List MemPlace}
    (hv : Value.okWide Try.prog w r b0 26 v) (h : DataW.Trod enc Try.prog w base (fun _ => true) held 26 v d ps) (hlt : ∀ p ∈ ps, p.block < w.heap.size) :
    ∃ t kz sz pz, v = TreeV.val t ∧ TreeIs w t kz sz pz := by
  obtain ⟨cs, rfl, hsz⟩ := okWide_struct Try.underlying26 hv
  obtain ⟨fuel, hf⟩ := h
  obtain ⟨t, kz, sz, pz, e, ht⟩ := trod_tree hf hlt
  exact ⟨t, kz, sz, pz, by rw [e]; rfl, ht⟩

set_option maxRecDepth 100000 in
theorem open_i64 {H : Type} {enc : TypeId × Value → H} {w : World} {base b0 : Nat} {r : Reach} {spare : Nat → Bool} {held : Bool} {v : Value} {d : DataW H} {ps : List MemPlace}
    (hv : Value.okWide Try.prog w r b0 3 v) (h : DataW.Trod enc Try.prog w base spare held 3 v d ps) :
    ∃ n, v = .int .i64 n ∧ -9223372036854775808 ≤ n ∧ n ≤ 9223372036854775807 := by
  obtain ⟨x, rfl, rfl, rfl, wx⟩ := open_int Try.underlying3 hv h
  exact ⟨x, rfl, bounds_i64 wx⟩
set_option maxRecDepth 100000 in
theorem open_u64 {H : Type} {enc : TypeId × Value → H} {w : World} {base b0 : Nat} {r : Reach} {spare : Nat → Bool} {held : Bool} {v : Value} {d : DataW H} {ps : List MemPlace}
    (hv : Value.okWide Try.prog w r b0 27 v) (h : DataW.Trod enc Try.prog w base spare held 27 v d ps) :
    ∃ n, v = .int .u64 n ∧ 0 ≤ n ∧ n ≤ 18446744073709551615 := by
  obtain ⟨x, rfl, rfl, rfl, wx⟩ := open_int Try.underlying27 hv h
  exact ⟨x, rfl, bounds_u64 wx⟩
end Go.Proofs.Ytkmgkeodmkfnpaa
