/- Digests cut out of bytes, by the program and by the reference. No condition. -/
import Derived.Test.YtkmgkeodmkfnpaaPackF
import Derived.Maps.AppendAt
namespace Go.Proofs.Ytkmgkeodmkfnpaa
open Go.ChangeShapes Go.WideShapes Go.ChangeAt Go.RowKit Go.Joins Go.Shelf Go.Maps
attribute [local go_sem] Oper.semAt_some

/-- The blocks of these types are as they were. -/
def Keeps (Ts : List TypeId) (w w' : World) : Prop := w.heap.size ≤ w'.heap.size ∧ ∀ (g : Nat) (c : Array Value) (T : TypeId), T ∈ Ts → w.heap[g]? = some (Obj.cells c T (0, 0)) → w'.heap[g]? = some (Obj.cells c T (0, 0))
theorem keeps_below {Ts : List TypeId} {w w' : World} (h : Below w.heap.size w w') : Keeps Ts w w' :=
  ⟨h.size, fun g _ _ _ hg => (h.block g (Array.getElem?_eq_some_iff.1 hg).1).trans hg⟩
theorem Keeps.trans {Ts : List TypeId} {w w1 w2 : World} (h1 : Keeps Ts w w1) (h2 : Keeps Ts w1 w2) : Keeps Ts w w2 :=
  ⟨Nat.le_trans h1.1 h2.1, fun g c T hT hg => h2.2 g c T hT (h1.2 g c T hT hg)⟩
theorem keeps_grown {Ts : List TypeId} {w w' : World} {B size n : Nat} {e : TypeId} {v : Value} {xs : List Value} (h : w.ownsRow B e size v n xs) (hg : w.grownBy w' v.ownBlock) (he : ∀ T ∈ Ts, T ≠ e) : Keeps Ts w w' :=
  ⟨hg.size, fun g _ T hT hc => (hg.block g (Array.getElem?_eq_some_iff.1 hc).1 (own_ne h hc (he T hT))).trans hc⟩
theorem keeps_set {Ts : List TypeId} {w : World} {b i : Nat} {c : Array Value} {T : TypeId} {fr : Nat × Nat} (hb : w.heap[b]? = some (.cells c T fr)) (hT : T ∉ Ts) (v : Value) : Keeps Ts w (w.setCell ⟨b, i, none⟩ v) := by
  refine ⟨by simp, fun g c' T' hT' hg => ?_⟩
  rw [heap_setCell_other w ⟨b, i, none⟩ g v (fun e => ?_)]
  · exact hg
  · have e' : g = b := e
    rw [e', hb] at hg
    simp only [Option.some.injEq, Obj.cells.injEq] at hg
    exact hT (hg.2.1 ▸ hT')
theorem keeps_alloc {Ts : List TypeId} (w : World) (o : Obj) : Keeps Ts w (w.alloc o) := keeps_below ((Below.refl _ w).alloc (Nat.le_refl _) o)
/-- A digest that lies in a block of bytes. -/
def DigT (w : World) (v : Value) (zs : List Int) : Prop :=
  ∃ b off cap c, v = .slice (some ⟨b, off, none⟩) zs.length cap ∧ w.heap[b]? = some (.cells c 5 (0, 0)) ∧ ∀ i, i < zs.length → c[off + i]? = some (.int .u8 (nthz zs i))
theorem DigT.keep {w w' : World} {v : Value} {zs : List Int} {Ts : List TypeId} (h : DigT w v zs) (hk : Keeps Ts w w') (hT : 5 ∈ Ts) : DigT w' v zs := by
  obtain ⟨b, off, cap, c, e, hb, hc⟩ := h
  exact ⟨b, off, cap, c, e, hk.2 b c _ hT hb, hc⟩
theorem DigT.holds {w : World} {v : Value} {zs : List Int} (h : DigT w v zs) : Holds8 w v zs := by
  obtain ⟨b, off, cap, c, e, hb, hc⟩ := h
  exact ⟨_, cap, e, .inr ⟨b, off, rfl, (Array.getElem?_eq_some_iff.1 hb).1, fun i hi => by rw [cell_of_heap hb]; exact hc i hi⟩⟩
/-- Digests that lie in blocks of their own types. -/
def RowT (w : World) (v : Value) (ds : List (List Int)) : Prop :=
  ∃ (a : Option Addr) (cap : Nat) (V : Nat → Value), v = .slice a ds.length cap ∧ (a = none → cap = 0) ∧ (ds = [] ∨ ∃ b c, a = some ⟨b, 0, none⟩ ∧ w.heap[b]? = some (.cells c 24 (0, 0)) ∧ ∀ i, i < ds.length → c[i]? = some (V i) ∧ DigT w (V i) (nthd ds i))
theorem RowT.keep {w w' : World} {v : Value} {ds : List (List Int)} {Ts : List TypeId} (h : RowT w v ds) (hk : Keeps Ts w w') (hT : 5 ∈ Ts) (hT' : 24 ∈ Ts) : RowT w' v ds := by
  obtain ⟨a, cap, V, e, ha, h⟩ := h
  refine ⟨a, cap, V, e, ha, ?_⟩
  rcases h with h | ⟨b, c, e', hb, h⟩
  · exact .inl h
  · exact .inr ⟨b, c, e', hk.2 b c _ hT' hb, fun i hi => ⟨(h i hi).1, (h i hi).2.keep hk hT⟩⟩
theorem RowT.rows {w : World} {v : Value} {ds : List (List Int)} (h : RowT w v ds) : RowsAt w v ds := by
  obtain ⟨a, cap, V, e, ha, h⟩ := h
  refine ⟨a, cap, V, e, ha, ?_⟩
  rcases h with h | ⟨b, c, e', hb, h⟩
  · exact .inl h
  · exact .inr ⟨b, 0, e', (Array.getElem?_eq_some_iff.1 hb).1, fun i hi => ⟨by rw [cell_of_heap hb, Nat.zero_add]; exact (h i hi).1, (h i hi).2.holds⟩⟩
theorem RowT.form {w : World} {v : Value} {ds : List (List Int)} (h : RowT w v ds) : ∃ a cap, v = .slice a ds.length cap := by
  obtain ⟨a, cap, V, e, -⟩ := h
  exact ⟨a, cap, e⟩
/-- An own row whose elements are digests. -/
theorem rowT_of_own {w : World} {B : Nat} {v : Value} {ds : List (List Int)} {xs : List Value} (h : w.ownsRow B 24 1 v ds.length xs) (hx : ∀ i, i < ds.length → ∃ u, xs[i]? = some u ∧ DigT w u (nthd ds i)) : RowT w v ds := by
  rcases h.2 with ⟨rfl, e⟩ | ⟨g, cap, cur, rfl, -, hg, hn, -, -, ht⟩
  · exact ⟨none, 0, fun _ => .slice none 0 0, by rw [e], fun _ => rfl, .inl (List.eq_nil_of_length_eq_zero e)⟩
  · refine ⟨some ⟨g, 0, none⟩, cap, fun i => (xs.getD i (.slice none 0 0)), rfl, fun e => absurd e (by simp), .inr ⟨g, cur, rfl, hg, fun i hi => ?_⟩⟩
    obtain ⟨u, hu, hd⟩ := hx i hi
    have e : xs.getD i (.slice none 0 0) = u := by rw [List.getD_eq_getElem?_getD, hu]; rfl
    show cur[i]? = some (xs.getD i (.slice none 0 0)) ∧ DigT w (xs.getD i (.slice none 0 0)) (nthd ds i)
    rw [e]
    refine ⟨?_, hd⟩
    rw [← ht, List.getElem?_take, if_pos (by omega)] at hu
    simpa using hu
/-- So many digests of so many bytes, from a place on. -/
def digZ (zs : List Int) (at_ size : Nat) : List Int := (zs.drop at_).take size
def cutL (zs : List Int) (at_ size n : Nat) : List (List Int) := (List.range n).map fun k => digZ zs (at_ + k * size) size
theorem cutL_length (zs : List Int) (at_ size n : Nat) : (cutL zs at_ size n).length = n := by simp [cutL]
theorem cutL_get {zs : List Int} {at_ size n k : Nat} (h : k < n) : nthd (cutL zs at_ size n) k = digZ zs (at_ + k * size) size := by
  unfold nthd cutL; simp [List.getD_eq_getElem?_getD, h]
theorem digZ_length {zs : List Int} {at_ size : Nat} (h : at_ + size ≤ zs.length) : (digZ zs at_ size).length = size := by
  unfold digZ; rw [List.length_take, List.length_drop]; omega
theorem digZ_get {zs : List Int} {at_ size i : Nat} (h : i < size) (h2 : at_ + size ≤ zs.length) : nthz (digZ zs at_ size) i = nthz zs (at_ + i) := by
  unfold digZ nthz
  rw [List.getD_eq_getElem?_getD, List.getD_eq_getElem?_getD, List.getElem?_take, if_pos h, List.getElem?_drop]
theorem mul_bound {k n size : Nat} (h : k < n) : k * size + size ≤ n * size := by
  have := Nat.mul_le_mul_right size (show k + 1 ≤ n by omega)
  rw [Nat.add_mul, Nat.one_mul] at this; exact this
theorem mul_le_int {k n : Nat} {B : Nat} (h : k * n ≤ B) : (k : Int) * (n : Int) ≤ (B : Int) := by
  rw [← Int.natCast_mul]; omega
/-- What is left of a block of bytes. -/
def RestIs (B L p : Nat) (v : Value) : Prop := ∃ q, v = .slice (some ⟨B, q, none⟩) (L - p) (L - p) ∧ (p < L → q = p)
def cutV (B p size : Nat) (k : Nat) : List Value := (List.range k).map fun j => .slice (some ⟨B, p + j * size, none⟩) size size
theorem cutV_succ (B p size k : Nat) : cutV B p size (k + 1) = cutV B p size k ++ [.slice (some ⟨B, p + k * size, none⟩) size size] := by
  unfold cutV; rw [List.range_succ, List.map_append]; rfl
set_option maxRecDepth 100000 in
set_option maxHeartbeats 1000000 in
theorem cut_ok (B L p : Nat) (v : Value) (n size : Nat) (w : World) (hv : RestIs B L p v) (hs : 1 ≤ size) (hs2 : size ≤ 64) (hn : p + n * size ≤ L) (hL : L ≤ 1048576) :
    Calls Try.prog 54 #[v, .int .u64 n, .int .i64 size] w fun e w' => ∃ l r, e = .returned (.tuple #[l, r]) ∧ w'.ownsRow w.heap.size 24 1 l n (cutV B p size n) ∧ RestIs B L (p + n * size) r ∧ Below w.heap.size w w' := by
  obtain ⟨i0, hi, hz0, hz1, hz2⟩ := info_parts info_bytes
  have hnb : n ≤ n * size := Nat.le_mul_of_pos_right n hs
  obtain ⟨q, rfl, hq⟩ := hv
  go_enter Try.func54, Try.ntmps54
  go_wp2_with fail
  go_loopw [0, 8, 10] (fun b o i wr => ∃ (k : Nat), RestIs B L (p + k * size) b ∧ i = .int .u64 k ∧ k ≤ n ∧ wr.ownsRow w.heap.size 24 1 o k (cutV B p size k) ∧ Below w.heap.size w wr) (fun _ _ i _ => n - (intOf i).toNat)
  case atStart => exact ⟨0, ⟨q, by simp, by simpa using hq⟩, rfl, by omega, World.ownsRow_nil _ _ _ _, Below.refl _ _⟩
  case round =>
    obtain ⟨k, ⟨q', rfl, hq'⟩, rfl, hk, hown, hb⟩ := hrel
    have hsr := hb.size
    by_cases hlt : k < n
    · have hm := mul_bound (size := size) hlt
      obtain rfl : q' = p + k * size := hq' (by omega)
      have h0 : (0 : Int) ≤ (size : Int) := Int.natCast_nonneg _
      have e1 := Lib.hid (cutV_succ B p size k)
      go_wp2_with (at_builtin; refine wpList_append_own _ rfl _ _ 107 rfl w.heap.size 24 i0 (.slice none 0 0) 1 24 Try.underlying107 hi hz0 hz1 hz2 rfl (by decide) _ _ _ rfl (hown.alloc _) ⟨wr.heap.size, 0, none⟩ 1 1 [.slice (some ⟨B, p + k * size, none⟩) size size] rfl rfl (cell_one_new _ _ _) (by simp [Value.oneCell']) (by unfold maxLen; omega) (by omega) (by simp; omega) ?_; intro v' w' hown' hgrow _)
      have e : p + (k + 1) * size = p + k * size + size := by rw [Nat.add_mul, Nat.one_mul, Nat.add_assoc]
      refine ⟨⟨k + 1, ?_, rfl, by omega, ?_, (hb.alloc hsr _).grown hgrow (by simp; omega) (fun k e => (hown.lt k e).1)⟩, by simp [intOf]; omega⟩
      · rw [e]
        by_cases h : L - (p + k * size) = size
        · rw [if_pos h]; exact ⟨_, by rw [← Nat.sub_add_eq], fun h' => by omega⟩
        · rw [if_neg h]; exact ⟨_, by rw [← Nat.sub_add_eq], fun _ => rfl⟩
      · rw [e1.out]; exact hown'
    · obtain rfl : k = n := by omega
      go_wp2
      exact bodyPost_ret (results_tmp2 (fn := Try.f54) (t := 6) (u := 7) rfl _ _ _) rfl ⟨_, _, rfl, hown, ⟨_, rfl, hq'⟩, hb⟩
theorem rowT_of_cut {w : World} {b0 B p size n : Nat} {l : Value} {ys : List Int} (h : w.ownsRow b0 24 1 l n (cutV B p size n)) (hB : w.heap[B]? = some (Obj.cells (ys.map encB).toArray 5 (0, 0))) (hn : p + n * size ≤ ys.length) : RowT w l (cutL ys p size n) := by
  refine rowT_of_own (B := b0) (xs := cutV B p size n) (by rw [cutL_length]; exact h) (fun i hi => ?_)
  rw [cutL_length] at hi
  have hm := mul_bound (size := size) hi
  refine ⟨.slice (some ⟨B, p + i * size, none⟩) size size, by unfold cutV; simp [hi], ?_⟩
  rw [cutL_get hi]
  have hl : (digZ ys (p + i * size) size).length = size := digZ_length (by omega)
  refine ⟨B, p + i * size, size, _, by rw [hl], hB, fun j hj => ?_⟩
  rw [hl] at hj
  rw [digZ_get hj (by omega)]
  have hj' : p + i * size + j < ys.length := by omega
  simp [hj', encB, nthz, List.getD_eq_getElem?_getD]
theorem take_snocZ {zs : List Int} {at_ k : Nat} (h : at_ + k < zs.length) : digZ zs at_ (k + 1) = digZ zs at_ k ++ [nthz zs (at_ + k)] := by
  unfold digZ
  rw [take_snoc (by rw [List.length_drop]; omega)]
  congr 2
  unfold nthz
  rw [List.getD_eq_getElem?_getD, List.getD_eq_getElem?_getD, List.getElem?_drop]
set_option maxRecDepth 100000 in
set_option maxHeartbeats 1000000 in
theorem digests_ok (zs : List Int) (v : Value) (at_ n size : Nat) (w : World) (hv : Holds8 w v zs) (hz : ∀ z ∈ zs, 0 ≤ z ∧ z ≤ 255) (hs : 1 ≤ size) (hs2 : size ≤ 64) (hn : at_ + n * size ≤ zs.length) (hL : zs.length ≤ 1048576) :
    Calls Try.prog 57 #[v, .int .i64 at_, .int .u64 n, .int .i64 size] w fun e w' => ∃ l, e = .returned l ∧ RowT w' l (cutL zs at_ size n) ∧ Below w.heap.size w w' := by
  obtain ⟨i1, hi1, hy0, hy1, hy2⟩ := info_parts info_bytes
  obtain ⟨i0, hi, hz0, hz1, hz2⟩ := info_parts info_u8
  have hnb : n ≤ n * size := Nat.le_mul_of_pos_right n hs
  obtain ⟨a, cap, rfl, h⟩ := hv
  have hcell : zs = [] ∨ ∃ b off, a = some ⟨b, off, none⟩ ∧ b < w.heap.size ∧ Hid (∀ i, i < zs.length → w.cell? ⟨b, off + i, none⟩ = some (.int .u8 (nthz zs i))) := by
    rcases h with h | ⟨b, off, e, h1, h2⟩
    · exact .inl h
    · exact .inr ⟨b, off, e, h1, Lib.hid h2⟩
  have HH := Lib.hid hcell
  clear h hcell
  go_enter Try.func57, Try.ntmps57
  go_wp2_with fail
  go_loopw [9, 10] (fun o i wr => ∃ (k : Nat) (xs : List Value), i = .int .i64 k ∧ k ≤ n ∧ wr.ownsRow w.heap.size 24 1 o k xs ∧ Hid (∀ j, j < k → ∃ u, xs[j]? = some u ∧ DigT wr u (digZ zs (at_ + j * size) size)) ∧ Below w.heap.size w wr) (fun _ i _ => n - (intOf i).toNat)
  case atStart => exact ⟨0, [], rfl, by omega, World.ownsRow_nil _ _ _ _, Lib.hid (fun j h => absurd h (Nat.not_lt_zero _)), Below.refl _ _⟩
  case round =>
    obtain ⟨k, xs, rfl, hk, hown, HX, hb⟩ := hrel
    have hsr := hb.size
    by_cases hlt : k < n
    · have hm := mul_bound (size := size) hlt
      obtain ⟨b, off, rfl, hbw, HC⟩ := HH.out.resolve_left (fun e => by rw [e] at hn; simp at hn; omega)
      go_wp2_with fail
      generalize hW : wr = W at *
      go_loopw [11, 12] (fun d i wi => ∃ (k' : Nat), i = .int .i64 k' ∧ k' ≤ size ∧ wi.ownsRow W.heap.size 5 1 d k' ((digZ zs (at_ + k * size) k').map encB) ∧ Below W.heap.size W wi) (fun _ i _ => size - (intOf i).toNat)
      case atStart => exact ⟨0, rfl, by omega, by simpa [digZ] using World.ownsRow_nil _ _ _ _, Below.refl _ _⟩
      case round =>
        obtain ⟨k', rfl, hk', hown1, hb1⟩ := hrel
        have hs1 := hb1.size
        by_cases hlk : k' < size
        · have hpos : at_ + k * size + k' < zs.length := by omega
          have hc : wr.cell? ⟨b, off + (at_ + k * size + k'), none⟩ = some (.int .u8 (nthz zs (at_ + k * size + k'))) := (hb1.cell (p := ⟨b, _, none⟩) (by show b < W.heap.size; omega)).trans ((hb.cell (p := ⟨b, _, none⟩) hbw).trans (HC.out _ hpos))
          have e1 : (digZ zs (at_ + k * size) (k' + 1)).map encB = (digZ zs (at_ + k * size) k').map encB ++ [.int .u8 (nthz zs (at_ + k * size + k'))] := by rw [take_snocZ hpos, List.map_append]; rfl
          have E1 := Lib.hid e1
          clear e1
          have hks : k * size ≤ 1048576 := by omega
          have hksi : (k : Int) * (size : Int) ≤ 1048576 := mul_le_int hks
          have hksi0 : 0 ≤ (k : Int) * (size : Int) := Int.mul_nonneg (by omega) (by omega)
          go_wp2_with (at_builtin; refine wpList_append_own _ rfl _ _ 24 rfl W.heap.size 5 i0 (.int .u8 0) 1 1 Try.underlying24 hi hz0 hz1 hz2 rfl (by decide) _ _ _ rfl (hown1.alloc _) ⟨wr.heap.size, 0, none⟩ 1 1 [.int .u8 (nthz zs (at_ + k * size + k'))] rfl rfl (cell_one_new _ _ _) (by simp [Value.oneCell']) (by unfold maxLen; omega) (by omega) (by simp; omega) ?_; intro v' w' hown' hgrow _)
          exact ⟨⟨k' + 1, rfl, by omega, by rw [E1.out]; exact hown', (hb1.alloc hs1 _).grown hgrow (by simp; omega) (fun k e => (hown1.lt k e).1)⟩, by simp [intOf]; omega⟩
        · obtain rfl : size = k' := by omega
          obtain ⟨g1, c1, rfl⟩ := ownsRow_form hown1 (by omega)
          have hdig : DigT wr (.slice (some ⟨g1, 0, none⟩) size c1) (digZ zs (at_ + k * size) size) := by
            have hl : (digZ zs (at_ + k * size) size).length = size := digZ_length (by omega)
            rcases hown1.2 with ⟨e, -⟩ | ⟨g, cp, cur, e, -, hg, hn', -, -, ht⟩
            · exact absurd e (by simp)
            · simp only [Value.slice.injEq, Option.some.injEq, Addr.mk.injEq, true_and, and_true] at e
              obtain ⟨rfl, rfl⟩ := e
              refine ⟨g1, 0, c1, cur, by rw [hl], hg, fun i hi => ?_⟩
              rw [hl] at hi
              have e2 : ((digZ zs (at_ + k * size) size).map encB)[i]? = some (.int .u8 (nthz (digZ zs (at_ + k * size) size) i)) := by
                simp [hl, hi, encB, nthz, List.getD_eq_getElem?_getD]
              rw [← ht, List.getElem?_take, if_pos (by omega)] at e2
              simpa using e2
          have HD := Lib.hid hdig
          clear hdig
          have hownl := ownsRow_same' hown (fun g _ g2 => hb1.block g g2)
          go_wp2_with (at_builtin; refine wpList_append_own _ rfl _ _ 107 rfl w.heap.size 24 i1 (.slice none 0 0) 1 24 Try.underlying107 hi1 hy0 hy1 hy2 rfl (by decide) _ k xs rfl (hownl.alloc _) ⟨wr.heap.size, 0, none⟩ 1 1 [.slice (some ⟨g1, 0, none⟩) size c1] rfl rfl (cell_one_new _ _ _) (by simp [Value.oneCell']) (by unfold maxLen; omega) (by omega) (by simp; omega) ?_; intro v' w' hown' hgrow _)
          have hK1 : Keeps [5] wr w' := (keeps_alloc wr _).trans (keeps_grown (hownl.alloc _) hgrow (by decide))
          have hK : Keeps [5] W w' := (keeps_below hb1).trans hK1
          have hxl : xs.length = k := by have := hown.1; omega
          have hbW : Below w.heap.size w wr := hb.trans (hb1.mono hsr)
          refine ⟨⟨k + 1, xs ++ [.slice (some ⟨g1, 0, none⟩) size c1], rfl, by omega, hown', Lib.hid fun j hj => ?_, (hbW.alloc (by omega) _).grown hgrow (by simp; omega) (fun k e => (hownl.lt k e).1)⟩, by simp [intOf]; omega⟩
          by_cases e : j = k
          · rw [e]
            exact ⟨_, by rw [List.getElem?_append_right (by omega), hxl, Nat.sub_self]; rfl, HD.out.keep hK1 (by decide)⟩
          · obtain ⟨u, hu, hd⟩ := HX.out j (by omega)
            exact ⟨u, by rw [List.getElem?_append_left (by omega)]; exact hu, hd.keep hK (by decide)⟩
    · obtain rfl : k = n := by omega
      go_wp2
      go_ret
      refine ⟨_, rfl, rowT_of_own (xs := xs) (by rw [cutL_length]; exact hown) (fun i hi => ?_), hb⟩
      rw [cutL_length] at hi
      rw [cutL_get hi]
      exact HX.out i hi
end Go.Proofs.Ytkmgkeodmkfnpaa
