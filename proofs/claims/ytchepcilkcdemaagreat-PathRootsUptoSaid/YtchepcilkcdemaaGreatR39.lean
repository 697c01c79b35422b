/- A path and its digests, opened out of an argument; how long its lists are at most. No condition. -/
import Derived.Test.YtchepcilkcdemaaGreatR07
import Derived.Test.YtchepcilkcdemaaGreatR05
import Derived.Deep.Slices
set_option linter.all false
set_option maxRecDepth 100000
set_option maxHeartbeats 8000000
namespace Go.Proofs.YtchepcilkcdemaaGreat
open Go.ChangeShapes Go.WideShapes Go.ChangeAt Go.RowKit Go.Joins Go.Shelf Go.Maps Go.Deep
theorem pBulk_pos {H : Type} (d : DataW H) : 1 ≤ Rows.uptoBulk d := by
  cases d with
  | lit l => cases l <;> simp [Rows.uptoBulk]
  | _ => simp [Rows.uptoBulk]
theorem pBulk_mem {H : Type} {d : DataW H} : ∀ {l : List (DataW H)}, d ∈ l → Rows.uptoBulk d ≤ Rows.uptoBulkAll l
  | x :: r, h => by
    simp only [Rows.uptoBulkAll]
    rcases List.mem_cons.1 h with rfl | h
    · omega
    · have := pBulk_mem h; omega
theorem pBulk_len {H : Type} : ∀ (l : List (DataW H)), l.length ≤ Rows.uptoBulkAll l
  | [] => Nat.zero_le _
  | x :: r => by
    have := pBulk_len r
    have := pBulk_pos x
    simp only [Rows.uptoBulkAll, List.length_cons]; omega
def nthd (ds : List (List Int)) (k : Nat) : List Int := ds.getD k []
def AllBytes (zs : List Int) : Prop := ∀ z ∈ zs, 0 ≤ z ∧ z ≤ 255
/-- Digests in memory. -/
def pRowsAt (w : World) (v : Value) (ds : List (List Int)) : Prop :=
  ∃ (a : Option Addr) (cap : Nat) (V : Nat → Value), v = .slice a ds.length cap ∧ (a = none → cap = 0) ∧ (ds = [] ∨ ∃ b off, a = some ⟨b, off, none⟩ ∧ b < w.heap.size ∧ ∀ i, i < ds.length → w.cell? ⟨b, off + i, none⟩ = some (V i) ∧ Holds8 w (V i) (nthd ds i))
def RowOk (m : Nat) (ds : List (List Int)) : Prop := ds.length ≤ m ∧ ∀ d ∈ ds, d.length ≤ m ∧ AllBytes d
abbrev StepV : Type := List (List Int) × List (List Int)
def nths (ss : List StepV) (k : Nat) : StepV := ss.getD k ([], [])
/-- A path's steps in memory. -/
def StepsAt (w : World) (v : Value) (ss : List StepV) : Prop :=
  ∃ (a : Option Addr) (cap : Nat) (U V : Nat → Value), v = .slice a ss.length cap ∧ (a = none → cap = 0) ∧ (ss = [] ∨ ∃ b off, a = some ⟨b, off, none⟩ ∧ b < w.heap.size ∧ ∀ i, i < ss.length → w.cell? ⟨b, off + i * 2, none⟩ = some (U i) ∧ w.cell? ⟨b, off + i * 2 + 1, none⟩ = some (V i) ∧ pRowsAt w (U i) (nths ss i).1 ∧ pRowsAt w (V i) (nths ss i).2)
def StepsOk (m : Nat) (ss : List StepV) : Prop := ss.length ≤ m ∧ ∀ s ∈ ss, RowOk m s.1 ∧ RowOk m s.2
theorem pRowsAt.below {w w' : World} {v : Value} {ds : List (List Int)} (h : pRowsAt w v ds) (hb : Below w.heap.size w w') : pRowsAt w' v ds := by
  obtain ⟨a, cap, V, rfl, hc, h⟩ := h
  refine ⟨a, cap, V, rfl, hc, ?_⟩
  rcases h with h | ⟨b, off, rfl, h1, h2⟩
  · exact .inl h
  · exact .inr ⟨b, off, rfl, Nat.lt_of_lt_of_le h1 hb.size, fun i hi => ⟨(hb.cell (p := ⟨b, off + i, none⟩) h1).trans (h2 i hi).1, holds8_below (h2 i hi).2 hb⟩⟩
theorem StepsAt.below {w w' : World} {v : Value} {ss : List StepV} (h : StepsAt w v ss) (hb : Below w.heap.size w w') : StepsAt w' v ss := by
  obtain ⟨a, cap, U, V, rfl, hc, h⟩ := h
  refine ⟨a, cap, U, V, rfl, hc, ?_⟩
  rcases h with h | ⟨b, off, rfl, h1, h2⟩
  · exact .inl h
  · exact .inr ⟨b, off, rfl, Nat.lt_of_lt_of_le h1 hb.size, fun i hi => ⟨(hb.cell (p := ⟨b, off + i * 2, none⟩) h1).trans (h2 i hi).1, (hb.cell (p := ⟨b, off + i * 2 + 1, none⟩) h1).trans (h2 i hi).2.1, (h2 i hi).2.2.1.below hb, (h2 i hi).2.2.2.below hb⟩⟩
theorem RowOk.mono {m n : Nat} {ds : List (List Int)} (h : RowOk m ds) (hmn : m ≤ n) : RowOk n ds := ⟨Nat.le_trans h.1 hmn, fun d hd => ⟨Nat.le_trans (h.2 d hd).1 hmn, (h.2 d hd).2⟩⟩
section
variable {H : Type} {enc : TypeId × Value → H} {P : Program} {w : World} {base : Nat} {held : Bool}
theorem bytes_open {t e : TypeId} {fuel : Nat} {cs : List Value} {x : DataW H × List MemPlace} (ht : P.underlying t = some (.slice e)) (he : P.underlying e = some (.int .u8)) (hc : P.cellsOf e = 1)
    (h : DataW.trod enc P w base (fun _ => true) held fuel t cs = some x) (hlt : ∀ p ∈ x.2, p.block < w.heap.size) :
    ∃ v zs, cs = [v] ∧ Holds8 w v zs ∧ AllBytes zs ∧ zs.length ≤ Rows.uptoBulk x.1 := by
  rcases open_ints ht he hc h with ⟨hcs, hx⟩ | ⟨a, len, cap, zs, hcs, hb, hl, hm, hz, hx, hcell, hwz⟩
  · exact ⟨_, [], hcs, ⟨none, 0, rfl, .inl rfl⟩, by simp [AllBytes], Nat.zero_le _⟩
  · simp at hz
    have hlen : (zs.take len).length = len := by rw [List.length_take]; omega
    refine ⟨_, zs.take len, hcs, ⟨some a, cap, by rw [hlen], ?_⟩, fun z hzm => bounds_u8 (hwz z (List.mem_of_mem_take hzm)), ?_⟩
    · by_cases h0 : len = 0
      · exact .inl (by rw [h0]; rfl)
      · obtain ⟨b, off, rfl, hc2⟩ := ints_at hcell (by omega)
        refine .inr ⟨b, off, rfl, ?_, ?_⟩
        · have h1 : MemPlace.cell b off ∈ x.2 := by
            rw [hx]
            simp only [MemPlace.row]
            exact List.mem_map.2 ⟨0, by simp; omega, by simp⟩
          exact hlt _ h1
        · intro i hi
          rw [hlen] at hi
          rw [hc2 i (by omega)]
          unfold nthz
          simp [hi]
    · rw [hx]
      simp only [Rows.uptoBulk]
      have := pBulk_len (lits (H := H) .u8 (zs.take len))
      have e : (lits (H := H) .u8 (zs.take len)).length = (zs.take len).length := by simp [lits]
      omega
theorem rows_open {t e q : TypeId} {fuel : Nat} {cs : List Value} {x : DataW H × List MemPlace} (ht : P.underlying t = some (.slice e)) (he : P.underlying e = some (.slice q)) (hq : P.underlying q = some (.int .u8)) (ce : P.cellsOf e = 1) (cq : P.cellsOf q = 1)
    (h : DataW.trod enc P w base (fun _ => true) held fuel t cs = some x) (hlt : ∀ p ∈ x.2, p.block < w.heap.size) :
    ∃ v ds, cs = [v] ∧ pRowsAt w v ds ∧ RowOk (Rows.uptoBulk x.1) ds := by
  rcases open_slice1 ht ce h with ⟨hcs, hx⟩ | ⟨a, len, cap, m, n, V, D, Pl, hcs, hb, hl, hm, hmm, hx, hel⟩
  · exact ⟨_, [], hcs, ⟨none, 0, fun _ => .slice none 0 0, rfl, fun _ => rfl, .inl rfl⟩, Nat.zero_le _, by simp⟩
  · simp only [if_true] at hmm
    subst hmm
    have each : ∀ i, i < m → ∃ zs : List Int, Holds8 w (V i) zs ∧ AllBytes zs ∧ zs.length ≤ Rows.uptoBulk (D i) := by
      intro i hi
      obtain ⟨v, zs, h1, h2, h3, h4⟩ := bytes_open he hq cq (hel i hi).2 (fun p hp => hlt p (by rw [hx]; exact List.mem_append_right _ (List.mem_flatMap.2 ⟨i, List.mem_range.2 hi, hp⟩)))
      simp only [List.cons.injEq, and_true] at h1
      exact ⟨zs, h1 ▸ h2, h3, h4⟩
    obtain ⟨Z, hZ⟩ := choose_lt each
    have hlen : ((List.range len).map Z).length = len := by simp
    have hbulk : Rows.uptoBulkAll ((List.range len).map D) ≤ Rows.uptoBulk x.1 := by rw [hx]; simp only [Rows.uptoBulk]; omega
    refine ⟨_, (List.range len).map Z, hcs, ⟨some a, m, V, by rw [hlen], fun e => absurd e (by simp), ?_⟩, ?_, ?_⟩
    · by_cases h0 : len = 0
      · exact .inl (by rw [h0]; rfl)
      · obtain ⟨b, off, spot⟩ := a
        have hspot : spot = none := by simpa [Addr.add] using World.cell?_spot (hel 0 (by omega)).1
        subst hspot
        refine .inr ⟨b, off, rfl, ?_, ?_⟩
        · have h1 : MemPlace.cell b off ∈ x.2 := by
            rw [hx]
            refine List.mem_append_left _ ?_
            simp only [MemPlace.row]
            exact List.mem_map.2 ⟨0, by simp; omega, by simp⟩
          exact hlt _ h1
        · intro i hi
          rw [hlen] at hi
          refine ⟨?_, ?_⟩
          · rw [← Go.WideShapes.add_plain]; exact (hel i (by omega)).1
          · have e : nthd ((List.range len).map Z) i = Z i := by unfold nthd; simp [List.getD_eq_getElem?_getD, hi]
            rw [e]; exact (hZ i (by omega)).1
    · rw [hlen]
      have := pBulk_len ((List.range len).map D)
      simp only [List.length_map, List.length_range] at this
      omega
    · intro d hd
      obtain ⟨i, hi, rfl⟩ := List.mem_map.1 hd
      rw [List.mem_range] at hi
      obtain ⟨h1, h2, h3⟩ := hZ i (by omega)
      have := pBulk_mem (List.mem_map.2 ⟨i, List.mem_range.2 hi, rfl⟩ : D i ∈ (List.range len).map D)
      exact ⟨by omega, h2⟩
end
theorem cells_digests : Tryz.prog.cellsOf 73 = 1 := by kernel_rfl
theorem cells_step : Tryz.prog.cellsOf 75 = 2 := by kernel_rfl
theorem cells_steps : Tryz.prog.cellsOf 53 = 1 := by kernel_rfl
theorem cells_path : Tryz.prog.cellsOf 55 = 3 := by kernel_rfl
theorem cells_u64' : Tryz.prog.cellsOf 44 = 1 := by kernel_rfl
theorem list2 {α : Type} {l : List α} (h : l.length = 2) : ∃ a b, l = [a, b] := by
  match l, h with
  | [a, b], _ => exact ⟨a, b, rfl⟩
theorem list3 {α : Type} {l : List α} (h : l.length = 3) : ∃ a b c, l = [a, b, c] := by
  match l, h with
  | [a, b, c], _ => exact ⟨a, b, c, rfl⟩
section
variable {H : Type} {enc : TypeId × Value → H} {w : World} {base fuel : Nat} {held : Bool}
theorem trod_step {cs : List Value} {x : DataW H × List MemPlace} (h : DataW.trod enc Tryz.prog w base (fun _ => true) held fuel 75 cs = some x) (hlt : ∀ p ∈ x.2, p.block < w.heap.size) :
    ∃ (u v : Value) (s : StepV), cs = [u, v] ∧ pRowsAt w u s.1 ∧ pRowsAt w v s.2 ∧ RowOk (Rows.uptoBulk x.1) s.1 ∧ RowOk (Rows.uptoBulk x.1) s.2 := by
  obtain ⟨xs, n, _, hx, hlen, hxl, hf⟩ := DataW.trod_struct Tryz.underlying75 h
  rw [cells_step] at hlen
  obtain ⟨c0, c1, rfl⟩ := list2 hlen
  obtain ⟨y0, y1, rfl⟩ := list2 (l := xs) (by rw [hxl]; rfl)
  have g0 : DataW.trod enc Tryz.prog w base (fun _ => true) held n 73 [c0] = some y0 := by
    have g : DataW.trod enc Tryz.prog w base (fun _ => true) held n 73 (([c0, c1].drop 0).take (Tryz.prog.cellsOf 73)) = some y0 := hf 0 _ rfl
    rw [cells_digests] at g
    exact g
  have g1 : DataW.trod enc Tryz.prog w base (fun _ => true) held n 73 [c1] = some y1 := by
    have g : DataW.trod enc Tryz.prog w base (fun _ => true) held n 73 (([c0, c1].drop 1).take (Tryz.prog.cellsOf 73)) = some y1 := hf 1 _ rfl
    rw [cells_digests] at g
    exact g
  clear hf
  have hp : ∀ y ∈ [y0, y1], ∀ p ∈ y.2, p.block < w.heap.size := fun y hy p hp => hlt p (by rw [hx]; exact List.mem_flatMap.2 ⟨y, hy, hp⟩)
  obtain ⟨u, du, e0, hu, ou⟩ := rows_open Tryz.underlying73 Tryz.underlying24 Tryz.underlying5 cells_bytes cells_u8 g0 (hp y0 (by simp))
  obtain ⟨v, dv, e1, hv, ov⟩ := rows_open Tryz.underlying73 Tryz.underlying24 Tryz.underlying5 cells_bytes cells_u8 g1 (hp y1 (by simp))
  simp only [List.cons.injEq, and_true] at e0 e1
  subst e0 e1
  refine ⟨_, _, (du, dv), rfl, hu, hv, ou.mono ?_, ov.mono ?_⟩ <;>
    (rw [hx]; simp only [Rows.uptoBulk, Rows.uptoBulkAll, List.map_cons, List.map_nil]; omega)
instance : Inhabited StepV := ⟨([], [])⟩
theorem trod_steps {cs : List Value} {x : DataW H × List MemPlace} (h : DataW.trod enc Tryz.prog w base (fun _ => true) held fuel 53 cs = some x) (hlt : ∀ p ∈ x.2, p.block < w.heap.size) :
    ∃ v ss, cs = [v] ∧ StepsAt w v ss ∧ StepsOk (Rows.uptoBulk x.1) ss := by
  rcases open_slice Tryz.underlying53 h with ⟨hcs, hx⟩ | ⟨a, len, cap, m, n, D, Pl, hcs, hb, hl, hm, hmm, hx, hel⟩
  · exact ⟨_, [], hcs, ⟨none, 0, fun _ => .slice none 0 0, fun _ => .slice none 0 0, rfl, fun _ => rfl, .inl rfl⟩, Nat.zero_le _, by simp⟩
  · simp only [if_true] at hmm
    subst hmm
    rw [cells_step] at hx hel
    have each : ∀ i, i < m → ∃ y : Value × Value × StepV, w.cell? (a.add (i * 2)) = some y.1 ∧ w.cell? ((a.add (i * 2)).add 1) = some y.2.1 ∧ pRowsAt w y.1 y.2.2.1 ∧ pRowsAt w y.2.1 y.2.2.2 ∧ RowOk (Rows.uptoBulk (D i)) y.2.2.1 ∧ RowOk (Rows.uptoBulk (D i)) y.2.2.2 := by
      intro i hi
      obtain ⟨cs', h1, h2⟩ := hel i hi
      obtain ⟨u, v, s, rfl, hu, hv, ou, ov⟩ := trod_step h2 (fun p hp => hlt p (by rw [hx]; exact List.mem_append_right _ (List.mem_flatMap.2 ⟨i, List.mem_range.2 hi, hp⟩)))
      obtain ⟨-, -, h3⟩ := World.cells?_some h1
      refine ⟨(u, v, s), ?_, ?_, hu, hv, ou, ov⟩
      · have := h3 0 (by omega); simpa [Addr.add] using this
      · have := h3 1 (by omega); simpa using this
    obtain ⟨Y, hY⟩ := choose_lt each
    have hlen : ((List.range len).map fun i => (Y i).2.2).length = len := by simp
    have hbulk : Rows.uptoBulkAll ((List.range len).map D) ≤ Rows.uptoBulk x.1 := by rw [hx]; simp only [Rows.uptoBulk]; omega
    refine ⟨_, (List.range len).map fun i => (Y i).2.2, hcs, ⟨some a, m, fun i => (Y i).1, fun i => (Y i).2.1, by rw [hlen], fun e => absurd e (by simp), ?_⟩, ?_, ?_⟩
    · by_cases h0 : len = 0
      · exact .inl (by rw [h0]; rfl)
      · obtain ⟨b, off, spot⟩ := a
        have hspot : spot = none := by simpa [Addr.add] using World.cell?_spot (hY 0 (by omega)).1
        subst hspot
        refine .inr ⟨b, off, rfl, ?_, ?_⟩
        · have h1 : MemPlace.cell b off ∈ x.2 := by
            rw [hx]
            refine List.mem_append_left _ ?_
            simp only [MemPlace.row]
            exact List.mem_map.2 ⟨0, by simp; omega, by simp⟩
          exact hlt _ h1
        · intro i hi
          rw [hlen] at hi
          obtain ⟨k1, k2, k3, k4, -, -⟩ := hY i (by omega)
          have e : nths ((List.range len).map fun i => (Y i).2.2) i = (Y i).2.2 := by unfold nths; simp [List.getD_eq_getElem?_getD, hi]
          rw [e]
          exact ⟨by rw [← Go.WideShapes.add_plain]; exact k1, by rw [Go.WideShapes.add_plain, Go.WideShapes.add_plain] at k2; exact k2, k3, k4⟩
    · rw [hlen]
      have := pBulk_len ((List.range len).map D)
      simp only [List.length_map, List.length_range] at this
      omega
    · intro s hs
      obtain ⟨i, hi, rfl⟩ := List.mem_map.1 hs
      rw [List.mem_range] at hi
      obtain ⟨-, -, -, -, k5, k6⟩ := hY i (by omega)
      have := pBulk_mem (List.mem_map.2 ⟨i, List.mem_range.2 hi, rfl⟩ : D i ∈ (List.range len).map D)
      exact ⟨k5.mono (by omega), k6.mono (by omega)⟩
end
theorem open_path {H : Type} {enc : TypeId × Value → H} {w : World} {base b0 : Nat} {r : Reach} {held : Bool} {v : Value} {d : DataW H} {ps : List MemPlace}
    (hv : Value.okWide Tryz.prog w r b0 55 v) (h : DataW.Trod enc Tryz.prog w base (fun _ => true) held 55 v d ps) (hlt : ∀ p ∈ ps, p.block < w.heap.size) :
    ∃ (total leaf : Nat) (u : Value) (ss : List StepV), v = .agg #[.int .u64 total, .int .u64 leaf, u] ∧ (total : Int) ≤ 18446744073709551615 ∧ (leaf : Int) ≤ 18446744073709551615 ∧ StepsAt w u ss ∧ StepsOk (Rows.uptoBulk d) ss := by
  obtain ⟨cs, rfl, hsz⟩ := okWide_struct Tryz.underlying55 hv
  obtain ⟨fuel, hf⟩ := h
  obtain ⟨xs, n, _, hx, hlen, hxl, hf⟩ := DataW.trod_struct Tryz.underlying55 hf
  rw [cells_path] at hlen
  obtain ⟨c0, c1, c2, hcs⟩ := list3 hlen
  obtain ⟨y0, y1, y2, rfl⟩ := list3 (l := xs) (by rw [hxl]; rfl)
  have hcs' : cs = #[c0, c1, c2] := by
    have := congrArg List.toArray hcs
    simpa [Value.cells] using this
  subst hcs'
  have g0 : DataW.trod enc Tryz.prog w base (fun _ => true) held n 44 [c0] = some y0 := by
    have g : DataW.trod enc Tryz.prog w base (fun _ => true) held n 44 (([c0, c1, c2].drop 0).take (Tryz.prog.cellsOf 44)) = some y0 := hf 0 _ rfl
    rw [cells_u64'] at g
    exact g
  have g1 : DataW.trod enc Tryz.prog w base (fun _ => true) held n 44 [c1] = some y1 := by
    have g : DataW.trod enc Tryz.prog w base (fun _ => true) held n 44 (([c0, c1, c2].drop 1).take (Tryz.prog.cellsOf 44)) = some y1 := hf 1 _ rfl
    rw [cells_u64'] at g
    exact g
  have g2 : DataW.trod enc Tryz.prog w base (fun _ => true) held n 53 [c2] = some y2 := by
    have g : DataW.trod enc Tryz.prog w base (fun _ => true) held n 53 (([c0, c1, c2].drop 2).take (Tryz.prog.cellsOf 53)) = some y2 := hf 2 _ rfl
    rw [cells_steps] at g
    exact g
  clear hf
  simp only [Prod.mk.injEq] at hx
  obtain ⟨rfl, rfl⟩ := hx
  obtain ⟨total, e0, -, w0⟩ := DataW.trod_int Tryz.underlying44 g0
  obtain ⟨leaf, e1, -, w1⟩ := DataW.trod_int Tryz.underlying44 g1
  obtain ⟨u, ss, e2, h2, o2⟩ := trod_steps g2 (fun p hp => hlt p (by simp [hp]))
  simp only [List.cons.injEq, and_true] at e0 e1 e2
  subst e0 e1 e2
  obtain ⟨b1, b2⟩ := bounds_u64 w0
  obtain ⟨b3, b4⟩ := bounds_u64 w1
  obtain ⟨T, rfl⟩ : ∃ n : Nat, total = n := ⟨total.toNat, by omega⟩
  obtain ⟨L, rfl⟩ : ∃ n : Nat, leaf = n := ⟨leaf.toNat, by omega⟩
  refine ⟨T, L, _, ss, rfl, b2, b4, h2, ?_⟩
  have hm : Rows.uptoBulk y2.1 ≤ Rows.uptoBulk (DataW.agg (List.map (·.1) [y0, y1, y2])) := by
    simp only [Rows.uptoBulk, Rows.uptoBulkAll, List.map_cons, List.map_nil]; omega
  exact ⟨Nat.le_trans o2.1 hm, fun s hs => ⟨(o2.2 s hs).1.mono hm, (o2.2 s hs).2.mono hm⟩⟩
end Go.Proofs.YtchepcilkcdemaaGreat
