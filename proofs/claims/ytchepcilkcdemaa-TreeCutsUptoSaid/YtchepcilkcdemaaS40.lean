/- Whole lists behind lists; all levels of calls, by the reference. No condition. -/
import Derived.Test.YtchepcilkcdemaaS39
import Derived.Test.YtchepcilkcdemaaS38
import Derived.Test.YtchepcilkcdemaaS33
import Derived.ArgAppend
import Derived.Test.YtchepcilkcdemaaS05
set_option linter.all false
set_option maxRecDepth 100000
set_option maxHeartbeats 8000000
namespace Go.Proofs.Ytchepcilkcdemaa
open Go.ChangeShapes Go.WideShapes Go.ChangeAt Go.RowKit Go.Joins Go.Shelf Go.Maps
open Go.Lib (hid)
attribute [local go_sem] Oper.semAt_some
theorem row_at {W : World} {B T s n : Nat} {v : Value} {xs : List Value} (h : W.ownsRow B T s v n xs) (hn : 0 < n) : ∃ g cap, v = .slice (some ⟨g, 0, none⟩) n cap ∧ B ≤ g ∧ g < W.heap.size ∧ ∀ j u, xs[j]? = some u → W.cell? ⟨g, j, none⟩ = some u := by
 rcases h.2 with ⟨-, rfl⟩ | ⟨g, cap, cur, rfl, h1, h2, h3, h4, h5, h6⟩
 ·omega
 ·refine ⟨g, cap, rfl, h1, (Array.getElem?_eq_some_iff.1 h2).1, fun j u hu => (cell_of_heap h2 j).trans ?_⟩
  rw [← h6, List.getElem?_take] at hu
  split at hu
  ·rw [← Array.getElem?_toList]; exact hu
  ·cases hu
/-- A whole row behind a row. -/
theorem wpList_catR {P : Program} {ops : Array Oper} {rest : List Oper} {o : Oper} {a : Act} {Q : Exit → Act → World → Prop} {W : World} (hgd : o.guard = none) (s x : Operand) (t : TypeId)
 (ho : o.op = .call { callee := .builtin .append, args := #[s, x], argTypes := #[t, t] }) (B : Nat) (e : TypeId) (he : e ≠ 5) (i : TypeInfo) (z : Value) (size bytes : Nat) (ht : P.underlying t = some (.slice e)) (hi : P.info? e = some i) (hz : i.zero = some z)
 (hsize : i.size = size) (hby : i.bytes = bytes) (hzs : z.cells.size = size) (hsz : 0 < size) (v : Value) (n : Nat) (xs : List Value) (hs : a.eval s = v) (hown : W.ownsRow B e size v n xs)
 (B2 : Nat) (y : Value) (m : Nat) (ys : List Value) (hx : a.eval x = y) (hy : W.ownsRow B2 e size y m ys) (hm : 0 < m) (h1 : ∀ u ∈ ys, u.oneCell' = true) (h63 : n + m ≤ maxLen) (hbytes : (n + m) * bytes ≤ 140737488355328) (hB : B ≤ W.heap.size)
 (h : ∀ v' w', w'.ownsRow B e size v' (n + m) (xs ++ ys) → KB B W w' → Spare (fun k => v.ownBlock ≠ some k) W w' → (v'.ownBlock = v.ownBlock ∨ v'.ownBlock = some W.heap.size) → wpList P ops Q rest (a.put o.dst v') w') : wpList P ops Q (o :: rest) a W := by
 obtain ⟨g, cap, rfl, hg1, hg2, hg3⟩ := row_at hy hm
 refine wpList_append_own_at _ hgd s x t ho B e i z size bytes ht hi hz hsize hby hzs hsz v n xs hs hown ⟨g, 0, none⟩ m cap ys hx hy.1 (fun j u hj => ?_) h1 h63 hbytes hB fun v' w' h2 h3 _ h5 => ?_
 ·rw [Go.WideShapes.add_plain, Nat.zero_add]
  exact hg3 j u hj
 have hsp : Spare (fun k => v.ownBlock ≠ some k) W w' := Spare.of_grown h3
 refine h v' w' h2 ⟨hsp.os, hsp.tape, hsp.output, hsp.size, fun k hk => hsp.block k (by omega) (fun e2 => ?_), fun k c hc => ?_⟩ hsp h5
 ·rcases hown.2 with ⟨rfl, -⟩ | ⟨g, cap, cur, rfl, h4, -⟩
  ·cases e2
  ·simp only [Value.ownBlock, Option.some.injEq] at e2; omega
 ·rw [hsp.block k (Array.getElem?_eq_some_iff.1 hc).1 (fun e2 => ?_)]
  ·exact hc
  ·rcases hown.2 with ⟨rfl, -⟩ | ⟨g, cap, cur, rfl, -, h5, -⟩
   ·cases e2
   ·simp only [Value.ownBlock, Option.some.injEq] at e2
    subst e2
    rw [h5] at hc
    simp only [Option.some.injEq, Obj.cells.injEq] at hc
    exact he hc.2.1
theorem CallAt.one {w0 w : World} {B : Nat} {s : CallS} {c : List Value} (h : CallAt w0 B w s c) : ∀ u ∈ c, u.oneCell' = true := by
 obtain ⟨a1, n1, c1, a2, n2, c2, a3, n3, c3, rfl, -⟩ := h
 simp [Value.oneCell']
theorem getD_app {α : Type} (L M : List α) (d : α) (i : Nat) : (L ++ M).getD i d = if i < L.length then L.getD i d else M.getD (i - L.length) d := by
 simp only [List.getD_eq_getElem?_getD]
 split
 ·rename_i h; rw [List.getElem?_append_left h]
 ·rename_i h; rw [List.getElem?_append_right (by omega)]
/-- A list of calls behind a list of calls. -/
theorem wpList_catC {ops : Array Oper} {rest : List Oper} {o : Oper} {a : Act} {Q : Exit → Act → World → Prop} {w0 W : World} (hgd : o.guard = none) (s x : Operand)
 (ho : o.op = .call { callee := .builtin .append, args := #[s, x], argTypes := #[39, 39] }) (B : Nat) (v y : Value) (S Z : List CallS) (hs : a.eval s = v) (hl : CallsO w0 B W v S) (hx : a.eval x = y) (hz : CallsO w0 B W y Z) (hZ : Z ≠ [])
 (h63 : S.length + Z.length ≤ 1099511627776) (hw0 : w0.heap.size ≤ B) (hB : B ≤ W.heap.size)
 (h : ∀ v' w', CallsO w0 B w' v' (S ++ Z) → KB B W w' → Spare (fun k => v.ownBlock ≠ some k) W w' → (v'.ownBlock = v.ownBlock ∨ v'.ownBlock = some W.heap.size) → wpList Try.prog ops Q rest (a.put o.dst v') w') : wpList Try.prog ops Q (o :: rest) a W := by
 obtain ⟨ic, hic, hzc, hsc, hbc⟩ := info_parts info_call
 obtain ⟨cs, hcl, hown, hxs⟩ := hl
 obtain ⟨ds, hdl, hdown, hdx⟩ := hz
 refine wpList_catR hgd s x _ ho B 48 (by decide) ic _ 6 96 Try.underlying39 hic hzc hsc hbc rfl (by decide) v S.length cs.flatten hs hown B y Z.length ds.flatten hx hdown (List.length_pos_iff.2 hZ) (fun u hu => ?_) (by unfold maxLen; omega) (by omega) hB fun v' w' h2 h3 h4 h5 => h v' w' ⟨cs ++ ds, by simp [hcl, hdl], by simpa using h2, fun i hi => ?_⟩ h3 h4 h5
 ·obtain ⟨c, hc, huc⟩ := List.mem_flatten.1 hu
  obtain ⟨i, hi, rfl⟩ := List.mem_iff_getElem.1 hc
  have := hdx i (by omega)
  rw [List.getD_eq_getElem?_getD, List.getD_eq_getElem?_getD, List.getElem?_eq_getElem hi] at this
  exact CallAt.one this u huc
 ·simp only [List.length_append] at hi
  rw [getD_app, getD_app, hcl]
  split
  ·rename_i h; exact (hxs i h).kb hw0 h3
  ·rename_i h; exact (hdx (i - S.length) (by omega)).kb hw0 h3
theorem LevO.cat {w0 w w' : World} {B : Nat} {v v' : Value} {S Z : List (List CallS)} {vs ys : List Value} (ho : w.ownsRow B 39 1 v S.length vs) (hx : ∀ i, i < S.length → CallsO w0 B w (vs.getD i undef) (S.getD i [])) (hy : ys.length = Z.length) (hyx : ∀ i, i < Z.length → CallsO w0 B w (ys.getD i undef) (Z.getD i []))
 (ho' : w'.ownsRow B 39 1 v' (S.length + Z.length) (vs ++ ys)) (hb : w0.heap.size ≤ B) (hk : KB B w w') (hsp : Spare (fun k => v.ownBlock ≠ some k) w w') : LevO w0 B w' v' (S ++ Z) := by
 have hl : vs.length = S.length := by have := ho.1; simpa using this
 have one : ∀ u S, CallsO w0 B w u S → CallsO w0 B w' u S := fun u S h => by
  refine h.kb hb hk fun g hg => ?_
  obtain ⟨cs, -, h2, -⟩ := h
  exact own_spare ho h2 (by decide) hsp g hg
 refine ⟨vs ++ ys, by simpa using ho', fun i hi => ?_⟩
 simp only [List.length_append] at hi
 rw [getD_app, getD_app, hl]
 split
 ·rename_i h; exact one _ _ (hx i h)
 ·rename_i h; exact one _ _ (hyx (i - S.length) (by omega))
theorem CallsO.one {w0 w : World} {B : Nat} {v : Value} {S : List CallS} (h : CallsO w0 B w v S) : v.oneCell' = true := by
 obtain ⟨cs, -, ho, -⟩ := h
 obtain ⟨a, n, c, rfl⟩ := own_slice6 ho
 rfl
theorem TreeV.lvls_all (t : TreeV) (kz z1 z2 zs : List Int) (m : Nat) : [t.rowC kz z1 z2 0 false (cutZ t.ln zs) (cutZ t.ln zs).length] ++ t.lvlsC kz z1 z2 (t.leafZ kz z1 z2 zs) m = t.allC kz z1 z2 zs (m + 1) := by
 induction m with
 | zero => rfl
 | succ m ih => rw [TreeV.lvlsC_succ, TreeV.allC_succ, ← ih, List.append_assoc]; rfl
/-- What a call gives. -/
def TreeV.outC (t : TreeV) (s : CallS) : List Int := callR t.big s.bs s.kz s.la s.o s.ds
theorem TreeV.outC_node (t : TreeV) (kz z1 z2 : List Int) (row i : Nat) (la rt : Bool) (d : List Int) : t.outC (t.callS kz z1 z2 row i la rt d) = t.node kz z1 z2 row i la rt d := rfl
/-- Rows of lists of bytes, each of one's own. -/
def RowsV (B : Nat) (w : World) (lv : Value) (vs : List Value) (LL : List (List (List Int))) : Prop :=
 w.ownsRow B 28 1 lv LL.length vs ∧ (∀ i, i < LL.length → ListO B w (vs.getD i undef) (LL.getD i [])) ∧ ∀ i j g, i < j → j < LL.length → (vs.getD i undef).ownBlock = some g → (vs.getD j undef).ownBlock ≠ some g
theorem RowsV.len {B : Nat} {w : World} {lv : Value} {vs : List Value} {LL : List (List (List Int))} (h : RowsV B w lv vs LL) : vs.length = LL.length := by have := h.1.1; simpa using this
theorem RowsV.tend {B : Nat} {w w' : World} {lv : Value} {vs : List Value} {LL : List (List (List Int))} (h : RowsV B w lv vs LL) (hb : ∀ (k : Nat) (c : Array Value), w.heap[k]? = some (.cells c 5 (0, 0)) → w'.heap[k]? = some (.cells c 5 (0, 0)))
  (h1 : ∀ g, lv.ownBlock = some g → w'.heap[g]? = w.heap[g]?) (h2 : ∀ i g, i < LL.length → (vs.getD i undef).ownBlock = some g → w'.heap[g]? = w.heap[g]?) : RowsV B w' lv vs LL :=
 ⟨own_keep h.1 h1, fun i hi => (h.2.1 i hi).tend hb (fun g hg => h2 i g hi hg), h.2.2⟩
theorem own_block_ge {w : World} {B T n s : Nat} {v : Value} {xs : List Value} (ho : w.ownsRow B T s v n xs) : ∀ g, v.ownBlock = some g → B ≤ g := by
 intro g hg
 rcases ho.2 with ⟨rfl, -⟩ | ⟨g', cap, cur, rfl, h1, -, -⟩
 ·cases hg
 ·simp only [Value.ownBlock, Option.some.injEq] at hg; omega
theorem own_block_at {w : World} {B T n s : Nat} {v : Value} {xs : List Value} (ho : w.ownsRow B T s v n xs) : ∀ g, v.ownBlock = some g → ∃ c, w.heap[g]? = some (.cells c T (0, 0)) := by
 intro g hg
 rcases ho.2 with ⟨rfl, -⟩ | ⟨g', cap, cur, rfl, -, h2, -⟩
 ·cases hg
 ·simp only [Value.ownBlock, Option.some.injEq] at hg
  subst hg
  exact ⟨_, h2⟩
theorem own_apart {w : World} {B1 B2 T1 T2 n1 n2 s1 s2 : Nat} {v1 v2 : Value} {x1 x2 : List Value} (h1 : w.ownsRow B1 T1 s1 v1 n1 x1) (h2 : w.ownsRow B2 T2 s2 v2 n2 x2) (hT : T1 ≠ T2) : ∀ g, v1.ownBlock = some g → v2.ownBlock ≠ some g := by
 intro g e1 e2
 obtain ⟨c1, k1⟩ := own_block_at h1 g e1
 obtain ⟨c2, k2⟩ := own_block_at h2 g e2
 rw [k1] at k2
 simp only [Option.some.injEq, Obj.cells.injEq] at k2
 exact hT k2.2.1
theorem ListO.row {B : Nat} {w : World} {v : Value} {L : List (List Int)} (h : ListO B w v L) : ∃ vs, w.ownsRow B 24 1 v L.length vs := by
 obtain ⟨vs, ho, -⟩ := h
 exact ⟨vs, ho⟩
theorem getD_set {α : Type} (L : List α) (k i : Nat) (x d : α) (hk : k < L.length) : (L.set k x).getD i d = if k = i then x else L.getD i d := by
 simp only [List.getD_eq_getElem?_getD, List.getElem?_set]
 by_cases h : k = i
 ·subst h; simp [hk]
 ·simp [h]
/-- An empty row more. -/
theorem RowsV.snoc {B : Nat} {w w' : World} {lv lv' : Value} {vs : List Value} {LL : List (List (List Int))} (h : RowsV B w lv vs LL) (ho : w'.ownsRow B 28 1 lv' (LL.length + 1) (vs ++ [.slice none 0 0])) (hk : KB B w w') (hsp : Spare (fun k => lv.ownBlock ≠ some k) w w') : RowsV B w' lv' (vs ++ [.slice none 0 0]) (LL ++ [[]]) := by
 have hl := h.len
 refine ⟨by simpa using ho, fun i hi => ?_, fun i j g hij hj hg => ?_⟩
 ·simp only [List.length_append, List.length_singleton] at hi
  rw [getD_snoc, getD_snoc, hl]
  by_cases h3 : i < LL.length
  ·rw [if_pos h3, if_pos h3]
   obtain ⟨xs, hxs⟩ := (h.2.1 i h3).row
   exact (h.2.1 i h3).kb hk (own_spare h.1 hxs (by decide) hsp)
  ·rw [if_neg h3, if_neg h3, if_pos (by omega), if_pos (by omega)]; exact ListO.nil _ _
 ·simp only [List.length_append, List.length_singleton] at hj
  rw [getD_snoc, hl] at hg ⊢
  by_cases h3 : j < LL.length
  ·rw [if_pos (by omega)] at hg
   rw [if_pos h3]
   exact h.2.2 i j g hij h3 hg
  ·rw [if_neg h3, if_pos (by omega)]
   intro e; cases e
theorem Tend.of_below (F : Nat → Prop) {w w' : World} (hb : Below w.heap.size w w') : Tend F w w' := ⟨Spare.of_below _ hb, (KB.of_below hb (Nat.zero_le _)).bytes⟩
theorem kb_grown {W w' : World} {B T s n : Nat} {v : Value} {xs : List Value} (hown : W.ownsRow B T s v n xs) (hT : T ≠ 5) (h : W.grownBy w' v.ownBlock) (hB : B ≤ W.heap.size) : KB B W w' ∧ Spare (fun k => v.ownBlock ≠ some k) W w' := by
 have hsp : Spare (fun k => v.ownBlock ≠ some k) W w' := Spare.of_grown h
 refine ⟨⟨hsp.os, hsp.tape, hsp.output, hsp.size, fun k hk => hsp.block k (by omega) (fun e2 => by have := own_block_ge hown k e2; omega), fun k c hc => ?_⟩, hsp⟩
 rw [hsp.block k (Array.getElem?_eq_some_iff.1 hc).1 (fun e2 => ?_)]
 ·exact hc
 ·obtain ⟨c2, h2⟩ := own_block_at hown k e2
  rw [h2] at hc
  simp only [Option.some.injEq, Obj.cells.injEq] at hc
  exact hT hc.2.1
theorem not_type {w : World} {g : Nat} {c c2 : Array Value} {T T2 : TypeId} {fr fr2 : Nat × Nat} (h : w.heap[g]? = some (.cells c T fr)) (hT : T ≠ T2) : ∀ k, w.heap[k]? = some (.cells c2 T2 fr2) → k ≠ g := by
 rintro k hk rfl
 rw [h] at hk
 simp only [Option.some.injEq, Obj.cells.injEq] at hk
 exact hT hk.2.1
theorem own_off {w : World} {B T n s g : Nat} {v : Value} {xs : List Value} {c : Array Value} {T2 : TypeId} {fr : Nat × Nat} (ho : w.ownsRow B T s v n xs) (h : w.heap[g]? = some (.cells c T2 fr)) (hT : T2 ≠ T) : ∀ k, v.ownBlock = some k → k ≠ g := fun k hk => by
 obtain ⟨c2, h2⟩ := own_block_at ho k hk
 exact not_type h hT k h2
theorem ListO.off {B g : Nat} {w X : World} {v : Value} {L : List (List Int)} {c : Array Value} {T : TypeId} {fr : Nat × Nat} (h : ListO B w v L) (hg : w.heap[g]? = some (.cells c T fr)) (h1 : T ≠ 24) (h2 : T ≠ 5) (hX : ∀ k, k ≠ g → X.heap[k]? = w.heap[k]?) : ListO B X v L := by
 obtain ⟨xs, hx⟩ := h.row
 exact h.tend (fun k c hk => by rw [hX k (not_type hg h2 k hk)]; exact hk) (fun k hk => hX k (own_off hx hg h1 k hk))
theorem RowsV.off {B g : Nat} {w X : World} {lv : Value} {vs : List Value} {LL : List (List (List Int))} {c : Array Value} {T : TypeId} {fr : Nat × Nat} (h : RowsV B w lv vs LL) (hg : w.heap[g]? = some (.cells c T fr)) (h0 : T ≠ 28) (h1 : T ≠ 24) (h2 : T ≠ 5) (hX : ∀ k, k ≠ g → X.heap[k]? = w.heap[k]?) : RowsV B X lv vs LL :=
 ⟨own_keep h.1 (fun k hk => hX k (own_off h.1 hg h0 k hk)), fun i hi => (h.2.1 i hi).off hg h1 h2 hX, h.2.2⟩
/-- The last row has one list more. -/
theorem RowsV.put {B gl n cap : Nat} {w w1 : World} {vs : List Value} {DO : List (List (List Int))} {CO : List (List Int)} {out : List Int} {x : Value} (h : RowsV B w (.slice (some ⟨gl, 0, none⟩) n cap) vs (DO ++ [CO])) (h1 : ListO B w1 x (CO ++ [out])) (hk : KB B w w1) (hsp : Spare (fun k => (vs.getD DO.length undef).ownBlock ≠ some k) w w1)
  (hat : x.ownBlock = (vs.getD DO.length undef).ownBlock ∨ ∀ g, x.ownBlock = some g → w.heap.size ≤ g) : RowsV B (w1.setCell ⟨gl, DO.length, none⟩ x) (.slice (some ⟨gl, 0, none⟩) n cap) (vs.set DO.length x) (DO ++ [CO ++ [out]]) := by
 have hl := h.len
 simp only [List.length_append, List.length_singleton] at hl
 obtain ⟨ho, hx, hd⟩ := h
 have hlast := hx DO.length (by simp)
 obtain ⟨xs, hxs⟩ := hlast.row
 rcases ho.2 with ⟨e, -⟩ | ⟨g, cap', cur, e, p1, p2, p3, p4, p5, p6⟩
 ·cases e
 simp only [Value.slice.injEq, Option.some.injEq, Addr.mk.injEq, and_true] at e
 obtain ⟨rfl, rfl, rfl⟩ := e
 have q2 : w1.heap[gl]? = some (.cells cur 28 (0, 0)) := (hsp.block gl (Array.getElem?_eq_some_iff.1 p2).1 (fun e => own_off hxs p2 (by decide) gl e rfl)).trans p2
 have hX : ∀ k, k ≠ gl → (w1.setCell ⟨gl, DO.length, none⟩ x).heap[k]? = w1.heap[k]? := fun k hk => heap_setCell_other _ _ _ _ hk
 refine ⟨⟨by simp [hl], .inr ⟨gl, cap, _, by simp, p1, heap_setCell_same _ gl DO.length cur _ x q2, by simpa using p3, p4, by simpa using p5, ?_⟩⟩, fun i hi => ?_, fun i j g hij hj hg => ?_⟩
 ·rw [← p6, Array.toList_setIfInBounds, List.take_set]; simp
 ·rw [getD_set _ _ _ _ _ (by omega)]
  simp only [List.length_append, List.length_singleton] at hi
  by_cases hi2 : DO.length = i
  ·subst hi2
   rw [if_pos rfl, getD_snoc, if_neg (by omega), if_pos rfl]
   exact h1.off q2 (by decide) (by decide) hX
  ·rw [if_neg hi2, getD_snoc, if_pos (by omega)]
   have h3 := hx i (by simp; omega)
   rw [getD_snoc, if_pos (by omega)] at h3
   obtain ⟨ys, hys⟩ := h3.row
   exact (h3.kb hk (fun k hk => hsp.block k (own_block_lt hys k hk) (fun e => hd i DO.length k (by omega) (by simp) hk e))).off q2 (by decide) (by decide) hX
 ·rw [getD_set _ _ _ _ _ (by omega)] at hg ⊢
  simp only [List.length_append, List.length_singleton] at hj
  rw [if_neg (by omega)] at hg
  by_cases hj2 : DO.length = j
  ·subst hj2
   rw [if_pos rfl]
   have h3 := hx i (by simp; omega)
   obtain ⟨ys, hys⟩ := h3.row
   have h5 := own_block_lt hys g hg
   rcases hat with h4 | h4
   ·rw [h4]; exact hd i DO.length g hij (by simp) hg
   ·intro e; have := h4 g e; omega
  ·rw [if_neg hj2]
   exact hd i j g hij (by simp; omega) hg
/-- The account's rows. -/
def TreeV.accL (t : TreeV) (done : List (List CallS)) (cur : List CallS) : List (List (List Int)) := done.map (·.map t.outC) ++ (if cur.isEmpty then [] else [cur.map t.outC])
def AccR (t : TreeV) (w0 : World) (bl : Nat) (done : List (List CallS)) (cur : List CallS) (F : Nat → Prop) (w : World) : Prop :=
 ∃ lv vs, w.heap[bl]? = some (.cells #[lv] 59 (0, 0)) ∧ w0.heap.size ≤ bl ∧ RowsV w0.heap.size w lv vs (t.accL done cur) ∧ ∀ k, F k ↔ k = bl ∨ lv.ownBlock = some k ∨ ∃ i, i < (t.accL done cur).length ∧ (vs.getD i undef).ownBlock = some k
theorem accR_lt {t : TreeV} {w0 w : World} {bl : Nat} {done : List (List CallS)} {cur : List CallS} {F : Nat → Prop} (h : AccR t w0 bl done cur F w) : ∀ k, F k → w0.heap.size ≤ k ∧ k < w.heap.size := by
 obtain ⟨lv, vs, h1, h2, h3, h4⟩ := h
 intro k hk
 rcases (h4 k).1 hk with rfl | hk | ⟨i, hi, hk⟩
 ·exact ⟨h2, (Array.getElem?_eq_some_iff.1 h1).1⟩
 ·exact ⟨own_block_ge h3.1 k hk, own_block_lt h3.1 k hk⟩
 ·obtain ⟨xs, hx⟩ := (h3.2.1 i hi).row
  exact ⟨own_block_ge hx k hk, own_block_lt hx k hk⟩
theorem accL_put (t : TreeV) (done : List (List CallS)) (cur : List CallS) (s : CallS) : t.accL done (cur ++ [s]) = done.map (·.map t.outC) ++ [cur.map t.outC ++ [t.outC s]] := by
 unfold TreeV.accL
 rw [if_neg (by simp)]
 simp
theorem accL_nil (t : TreeV) (done : List (List CallS)) : t.accL done [] = done.map (·.map t.outC) := by simp [TreeV.accL]
theorem accL_cur (t : TreeV) (done : List (List CallS)) {cur : List CallS} (h : cur ≠ []) : t.accL done cur = done.map (·.map t.outC) ++ [cur.map t.outC] := by
 unfold TreeV.accL
 rw [if_neg (by simpa using h)]
theorem accL_next (t : TreeV) (done : List (List CallS)) {cur : List CallS} (hc : cur ≠ []) : t.accL (done ++ [cur]) [] = t.accL done cur := by
 rw [accL_nil, accL_cur t done hc, List.map_append]; rfl
theorem info_lists : (Try.prog.info? 28).map (fun i => (i.zero, i.size, i.bytes)) = some (some (.slice none 0 0), 1, 24) := by kernel_rfl
theorem wpList_buildN {ops : Array Oper} {rest : List Oper} {o : Oper} {act : Act} {w : World} {Q : Exit → Act → World → Prop} (hg : o.guard = none) (x : Operand) (ho : o.op = .buildSlice 59 1 #[(0, x)]) (a : Option Addr) (n k : Nat) (hx : act.eval x = .slice a n k)
  (h : wpList Try.prog ops Q rest (act.put o.dst (.slice (some ⟨w.heap.size, 0, none⟩) 1 1)) (w.alloc (.cells #[.slice a n k] 28))) : wpList Try.prog ops Q (o :: rest) act w := by
 obtain ⟨ib, hib, hzb, hsb, -⟩ := info_parts info_lists
 exact wpList_buildSlice hg 59 28 1 _ ho #[.slice a n k] ib _ Try.underlying59 hib hzb (by rw [hsb]; decide) (by rw [hsb]; decide) (by rw [hsb, show Array.range (1 * 1) = #[0] by decide]; simp [hx, Instr.fill, Value.cells]) h
theorem enter_rows (args : Array Value) (W : World) : (callFunc 42 args).run Try.prog W = .ok (.enter 42 args) W := by
 simp [callFunc, Try.func42, Try.f42]
theorem seer_rows {t : TreeV} {kz z1 z2 : List Int} {w0 : World} (hT : TreeOk t kz z1 z2 w0) (bl : Nat) : Seer t kz z1 z2 w0 42 bl (AccR t w0 bl) := by
 refine ⟨fun h => accR_lt h, fun h hb hF hB => ?_, fun hc h => ?_, fun h hrow hr hi hdl hcl hw hbo hko hdo hd => ?_⟩
 ·obtain ⟨lv, vs, h1, h2, h3, h4⟩ := h
  exact ⟨lv, vs, by rw [hF bl ((h4 bl).2 (.inl rfl))]; exact h1, h2, h3.tend hB (fun g hg => hF g ((h4 g).2 (.inr (.inl hg)))) (fun i g hi hg => hF g ((h4 g).2 (.inr (.inr ⟨i, hi, hg⟩)))), h4⟩
 ·obtain ⟨lv, vs, h1, h2, h3, h4⟩ := h
  rw [← accL_next t _ hc] at h3 h4
  exact ⟨lv, vs, h1, h2, h3, h4⟩
 ·rename_i done cur F w row i la rt d bv kv dv
  have hlt := accR_lt h
  obtain ⟨lv, vs, h1, h2, h3, h4⟩ := h
  obtain ⟨b0, hb0⟩ : ∃ b0, w.heap.size = b0 := ⟨_, rfl⟩
  have hblw : bl < w.heap.size := (Array.getElem?_eq_some_iff.1 h1).1
  have hw0 : w0.heap.size ≤ b0 := by have := hw.size; omega
  obtain ⟨a1, n1, c1, rfl⟩ := own_slice hbo
  obtain ⟨a2, n2, c2, rfl⟩ := own_slice hko
  obtain ⟨a3, c3, rfl, -, -⟩ := hdo.hold.slice
  obtain ⟨la1, ln1, lc1, rfl⟩ := own_slice h3.1
  have hln : ln1 = (t.accL done cur).length := by
   rcases h3.1.2 with ⟨e, e2⟩ | ⟨g, cap, cur, e, -⟩
   ·simp only [Value.slice.injEq] at e; omega
   ·simp only [Value.slice.injEq] at e; omega
  have hbA : Below b0 w (w.alloc (.cells #[.int .i64 t.k, .slice a1 n1 c1, .slice a2 n2 c2, .bool la, .int .i64 (t.outN rt), .slice a3 d.length c3] 48)) := by rw [← hb0]; exact (Below.refl _ _).alloc (Nat.le_refl _) _
  have hrA := World.alloc_heap_new w (.cells #[.int .i64 t.k, .slice a1 n1 c1, .slice a2 n2 c2, .bool la, .int .i64 (t.outN rt), .slice a3 d.length c3] 48)
  rw [hb0] at hrA
  have hbAx := hb0 ▸ hbA
  obtain ⟨ND, hND⟩ : ∃ ND, t.node kz z1 z2 row i la rt d = ND := ⟨_, rfl⟩
  have hnd := fun (W : World) (hb : Below b0 w W) => node_ok hT (row := row) (at_ := i) hr (by omega) la rt d (.slice a3 d.length c3) (.slice a1 n1 c1) (.slice a2 n2 c2) W _ (ownsRow_same' hbo (fun g _ g2 => hb.block g (by omega))) (ownsRow_same' hko (fun g _ g2 => hb.block g (by omega))) (hdo.hold.below (hb0 ▸ hb)) hd
  rw [hND] at hnd ⊢
  have HNO := hid hnd
  have HAP := hid (accL_put t done cur (t.callS kz z1 z2 row i la rt d))
  rw [TreeV.outC_node, hND] at HAP
  have H3 := hid h3
  have H4 := hid h4
  have HLT := hid hlt
  have HBA := hid hbA
  have HBL := hid h1
  have HDN := hid (show (done.map (·.map t.outC)).length = row by rw [List.length_map]; exact hrow)
  have HCN := hid (show (cur.map t.outC).length ≤ 8388608 by rw [List.length_map]; exact hcl)
  have HLN := hid hln
  clear h1 h3 h4 hlt hbo hko hdo hdl hbA hbAx hd hw hT hnd hND hrow hln
  unfold callC
  go_enter Try.func42, Try.ntmps42
  go_upto_region 1 with (fail)
  generalize w.alloc (.cells #[.int .i64 t.k, .slice a1 n1 c1, .slice a2 n2 c2, .bool la, .int .i64 (t.outN rt), .slice a3 d.length c3] 48) = wA at *
  have hsA : b0 < wA.heap.size := (Array.getElem?_eq_some_iff.1 hrA).1
  go_wp2_with ((with_reducible show wpList _ _ _ (Oper.mk _ (Op.load 48 _) _ _ _ _ :: _) _ _); refine wpList_load_row rfl 48 _ rfl b0 rfl _ _ _ _ hrA Try.underlying48 rfl (by kernel_rfl) ?_)
  refine (HNO.out wA HBA.out).mono ?_; rintro e w9 ⟨u, rfl, hu, hb9⟩
  obtain ⟨u1, u3, rfl, -, -⟩ := hu.hold.slice
  have HB9 := hid (HBA.out.trans (hb9.mono (show b0 ≤ wA.heap.size by omega)))
  have HU := hid (hu.le (show b0 ≤ wA.heap.size by omega))
  have HBL9 := hid ((HB9.out.block bl (by omega)).trans HBL.out)
  have hs9 := hb9.size
  have hk9 := KB.of_below (hb0 ▸ HB9.out) (Nat.zero_le _)
  have HV9 := hid (H3.out.tend hk9.bytes (fun g hg => HB9.out.block g (by have := own_block_lt H3.out.1 g hg; omega)) (fun i g hi hg => HB9.out.block g (by
   obtain ⟨xs, hx⟩ := (H3.out.2.1 i hi).row
   have := own_block_lt hx g hg; omega)))
  clear hu hb9 hrA hk9 HBA HBL H3 HNO
  have l9 : w9.cell? ⟨bl, 0, none⟩ = some (.slice la1 ln1 lc1) := cell_of_heap HBL9.out 0
  have s9 : bl < w9.heap.size := by omega
  have f9 := frozen_of_row w9 bl 0 _ _ HBL9.out
  obtain ⟨il, hil, hzl, hsl, hbl⟩ := info_parts info_lists
  have KEY : ∃ q : Bool, (cur = [] ↔ q = true) ∧ (((row : Nat) : Int) == (ln1 : Int)) = q := by
   refine ⟨_, ?_, rfl⟩
   rw [beq_iff_eq, HLN.out]
   by_cases hc : cur = []
   ·subst hc
    rw [accL_nil, HDN.out]; simp
   ·rw [accL_cur t done hc, List.length_append, HDN.out]
    simp only [hc, false_iff, List.length_singleton]; omega
  obtain ⟨q, hq, hq2⟩ := KEY
  have HQ := hid hq
  clear hq
  have hDR := HDN.out
  generalize hDO : done.map (·.map t.outC) = DO at *
  generalize hCO : cur.map t.outC = CO at *
  have hFb : ∀ k, (k = bl ∨ (Value.slice la1 ln1 lc1).ownBlock = some k ∨ ∃ i, i < (t.accL done cur).length ∧ (vs.getD i undef).ownBlock = some k) → F k := fun k hk => (H4.out k).2 hk
  clear H4 HLN
  cases q
  case' false =>
   have hcn : cur ≠ [] := fun e => by have := HQ.out.1 e; cases this
   have hLL := accL_cur t done hcn
   rw [hDO, hCO] at hLL
   have HV := HV9.out
   rw [hLL] at HV hFb
   have hHF : ∀ k, (k = bl ∨ (Value.slice la1 ln1 lc1).ownBlock = some k ∨ ∃ i, i < (DO ++ [CO]).length ∧ (vs.getD i undef).ownBlock = some k) → F k ∨ b0 ≤ k := fun k hk => .inl (hFb k hk)
   have HVX := hid HV
   have HFX := hid hHF
   have HTX := hid (Tend.of_below F (hb0 ▸ HB9.out))
   have HBX := hid HBL9.out
   have HUX := hid HU.out
   clear HV hFb hHF hLL HV9 HBL9 HU HB9 f9
   go_upto_region 4 with (fail)
   clear l9
   obtain ⟨X, hX⟩ : ∃ X, w9 = X := ⟨_, rfl⟩
   have hsX : b0 ≤ X.heap.size := by rw [← hX]; omega
   have hblX : bl < X.heap.size := by rw [← hX]; omega
   clear hs9 s9
   subst hX
   rename World => X
   generalize la1 = av at *
   generalize ln1 = nv at *
   generalize lc1 = cv at *
   generalize vs = vsX at *
  case' true =>
   have hcn : cur = [] := HQ.out.2 rfl
   have hLL : t.accL done cur = DO := by rw [hcn, accL_nil, hDO]
   have hCO0 : CO = [] := by rw [← hCO, hcn]; rfl
   have HV := HV9.out
   rw [hLL] at HV hFb
   have hbW : Below w9.heap.size w9 (w9.alloc (.cells #[.slice none 0 0] 28)) := (Below.refl _ _).alloc (Nat.le_refl _) _
   have hkW := KB.of_below hbW (Nat.zero_le _)
   have hVA := HV.tend hkW.bytes (fun g hg => hbW.block g (own_block_lt HV.1 g hg)) (fun i g hi hg => hbW.block g (by obtain ⟨xs, hx⟩ := (HV.2.1 i hi).row; exact own_block_lt hx g hg))
   have hrW := World.alloc_heap_new w9 (.cells #[.slice none 0 0] 28)
   have hone : (w9.alloc (.cells #[.slice none 0 0] 28)).ownsRow w0.heap.size 28 1 (.slice (some ⟨w9.heap.size, 0, none⟩) 1 1) 1 [.slice none 0 0] := ⟨rfl, .inr ⟨_, 1, _, rfl, by omega, hrW, by decide, by decide, rfl, rfl⟩⟩
   obtain ⟨bN, hbN⟩ : ∃ bN, w9.heap.size = bN := ⟨_, rfl⟩
   rw [show Value.slice (some ⟨w9.heap.size, 0, none⟩) 1 1 = Value.slice (some ⟨bN, 0, none⟩) 1 1 by rw [hbN]] at hone
   have hss : (w9.alloc (.cells #[.slice none 0 0] 28)).heap.size = bN + 1 := by rw [← hbN]; simp
   have HVA := hid hVA
   have HONE := hid hone
   have hblA := (hbW.block bl s9).trans HBL9.out
   have HBLA := hid hblA
   have hne : (Value.slice la1 ln1 lc1).ownBlock ≠ some bl := fun e => own_off HVA.out.1 HBLA.out (by decide) bl e rfl
   have HBW := hid (HB9.out.trans (hbW.mono (show b0 ≤ w9.heap.size by omega)))
   have HUA := hid (HU.out.kb hkW)
   clear hVA hone hblA hbW hkW hrW HV
   go_upto_region 4 with (first | ((with_reducible show wpList _ _ _ (Oper.mk _ (Op.buildSlice _ _ _) _ _ _ _ :: _) _ _); refine wpList_buildN rfl _ rfl none 0 0 rfl ?_; rw [hbN]; generalize w9.alloc (.cells #[.slice none 0 0] 28) = wB at *) | (at_builtin; refine wpList_catR rfl _ _ _ rfl w0.heap.size 28 (by decide) il (.slice none 0 0) 1 24 Try.underlying59 hil hzl hsl hbl rfl (by decide) (.slice la1 ln1 lc1) DO.length vs rfl HVA.out.1 w0.heap.size (.slice (some ⟨bN, 0, none⟩) 1 1) 1 [.slice none 0 0] rfl HONE.out (by omega) (by simp [Value.oneCell']) (by unfold maxLen; omega) (by omega) (by omega) ?_; intro v' w' hown' hkb' hsp' hat'; have hbl' := (hsp'.block bl (by omega) hne).trans HBLA.out; obtain ⟨av, nv, cv, rfl⟩ := own_slice hown'; have c0' : w'.cell? ⟨bl, 0, none⟩ = some (.slice la1 ln1 lc1) := cell_of_heap hbl' 0; have f0' := frozen_of_row w' bl 0 _ _ hbl'; have s0' : bl < w'.heap.size := (Array.getElem?_eq_some_iff.1 hbl').1))
   refine letterW ?_
   intro X hX
   have hXo : ∀ k, k ≠ bl → X.heap[k]? = w'.heap[k]? := fun k hk => by rw [hX]; exact heap_setCell_other _ _ _ _ hk
   have hsn : RowsV w0.heap.size w' (.slice av nv cv) (vs ++ [.slice none 0 0]) (DO ++ [CO]) := by rw [hCO0]; exact RowsV.snoc HVA.out hown' hkb' hsp'
   have hle := hkb'.size
   have hsX : b0 ≤ X.heap.size := by rw [hX]; simp [World.setCell]; omega
   have hblX : bl < X.heap.size := by rw [hX]; simp [World.setCell]; omega
   have HVX := hid (hsn.off hbl' (by decide) (by decide) (by decide) hXo)
   have HBX := hid (show X.heap[bl]? = some (.cells #[.slice av nv cv] 59 (0, 0)) by rw [hX]; exact heap_setCell_same _ bl 0 _ _ _ hbl')
   have hbyX : ∀ (k : Nat) (c : Array Value), wB.heap[k]? = some (.cells c 5 (0, 0)) → X.heap[k]? = some (.cells c 5 (0, 0)) := fun k c h => by
    have h2 := hkb'.bytes k c h
    rw [hXo k (not_type hbl' (by decide) k h2)]; exact h2
   have HUX := hid (HUA.out.tend hbyX)
   have HTX := hid (show Tend F w X from ⟨by
    refine (Spare.of_below (fun k => ¬ F k) (hb0 ▸ HBW.out)).trans (T := fun k => k ≠ bl ∧ (Value.slice la1 ln1 lc1).ownBlock ≠ some k) ?_ (fun k _ hk => ⟨fun e => hk (hFb k (.inl e)), fun e => hk (hFb k (.inr (.inl e)))⟩)
    refine ⟨by rw [hX]; exact hsp'.os, by rw [hX]; exact hsp'.tape, by rw [hX]; exact hsp'.output, by rw [hX]; simp [World.setCell]; omega, fun k hk hs => ?_⟩
    exact (hXo k hs.1).trans (hsp'.block k hk hs.2), fun k c h => hbyX k c ((KB.of_below (hb0 ▸ HBW.out) (Nat.zero_le _)).bytes k c h)⟩)
   have hvl := HVA.out.len
   have HFX := hid (show ∀ k, (k = bl ∨ (Value.slice av nv cv).ownBlock = some k ∨ ∃ i, i < (DO ++ [CO]).length ∧ ((vs ++ [Value.slice none 0 0]).getD i undef).ownBlock = some k) → F k ∨ b0 ≤ k from fun k hk => by
    rcases hk with hk | hk | ⟨i, hi, hk⟩
    ·exact .inl (hFb k (.inl hk))
    ·rcases hat' with h | h
     ·rw [h] at hk; exact .inl (hFb k (.inr (.inl hk)))
     ·rw [h] at hk; simp only [Option.some.injEq] at hk; exact .inr (by omega)
    ·rw [getD_snoc, hvl] at hk
     simp only [List.length_append, List.length_singleton] at hi
     by_cases hi2 : i < DO.length
     ·rw [if_pos hi2] at hk; exact .inl (hFb k (.inr (.inr ⟨i, hi2, hk⟩)))
     ·rw [if_neg hi2, if_pos (by omega)] at hk; cases hk)
   generalize vs ++ [.slice none 0 0] = vsX at *
   clear hX hXo hsn hle hbyX hown' hkb' hsp' hat' hbl' c0' f0' s0' hne hvl hCO0 hcn hLL HBLA HVA HONE HBW HUA HV9 HBL9 HU HB9 f9 l9 hFb hs9 s9 hss hbN
  all_goals
   obtain ⟨ib, hib, hzb, hsb, hbb⟩ := info_parts info_bytes
   obtain ⟨gl, cap, e, -, hgl, hgc⟩ := row_at HVX.out.1 (by simp)
   simp only [Value.slice.injEq] at e
   obtain ⟨rfl, rfl, rfl⟩ := e
   have hvl := HVX.out.len
   have hLR := HVX.out.2.1 DO.length (by simp)
   rw [getD_snoc, if_neg (by omega), if_pos rfl] at hLR
   obtain ⟨rv, hrv⟩ : ∃ rv, vsX.getD DO.length undef = rv := ⟨_, rfl⟩
   have hcw : X.cell? ⟨gl, DO.length, none⟩ = some rv := hgc _ _ (by
    rw [← hrv, List.getD_eq_getElem?_getD, List.getElem?_eq_getElem (by rw [hvl]; simp)]; rfl)
   obtain ⟨cr, hcr⟩ := own_block_at HVX.out.1 gl rfl
   rw [hrv] at hLR
   obtain ⟨xs, hxo, hxx⟩ := id hLR
   obtain ⟨ra, rn, rc, rfl⟩ := own_slice hxo
   have hxl : xs.length = CO.length := by have := hxo.1; simpa using this
   have hnb : bl ≠ gl := fun e => own_off HVX.out.1 HBX.out (by decide) gl rfl e.symm
   have hrb : (Value.slice ra rn rc).ownBlock ≠ some bl := fun e => own_off hxo HBX.out (by decide) bl e rfl
   have hrg : (Value.slice ra rn rc).ownBlock ≠ some gl := fun e => own_off hxo hcr (by decide) gl e rfl
   have hN : (DO ++ [CO]).length = row + 1 := by simp [hDR]
   rw [hDR] at hcw
   generalize hNN : (DO ++ [CO]).length = N at *
   have hNi : (row : Int) < (N : Int) := by omega
   have hNm : (N : Int) ≤ 9223372036854775807 := by omega
   have HN := hid hN
   have hcoN : CO.length ≤ 8388608 := HCN.out
   clear hN
   have HXO := hid hxo
   have HXX := hid hxx
   have HCW := hid hcw
   have HCR := hid hcr
   have HRV := hid hrv
   have HRB := hid hrb
   have HRG := hid hrg
   have HDR := hid hDR
   have HNN := hid hNN
   clear hxo hxx hcw hcr hrv hrb hrg hDR hgc hLR hNN hvl hDO hCO
   have hread : ∀ (W : World) (f : Bool), ((f = false → Below X.heap.size X W) ∧ (f = true → Spare (fun k => (Value.slice ra rn rc).ownBlock ≠ some k) X W ∧ KB w0.heap.size X W)) → W.cell? ⟨bl, 0, none⟩ = some (.slice (some ⟨gl, 0, none⟩) N cv) ∧ W.cell? ⟨gl, row, none⟩ = some (.slice ra rn rc) ∧ X.heap.size ≤ W.heap.size := fun W f hR => by
    have h1 : W.heap[bl]? = X.heap[bl]? ∧ W.heap[gl]? = X.heap[gl]? ∧ X.heap.size ≤ W.heap.size := by
     cases f
     ·exact ⟨(hR.1 rfl).block bl hblX, (hR.1 rfl).block gl hgl, (hR.1 rfl).size⟩
     ·exact ⟨(hR.2 rfl).1.block bl hblX HRB.out, (hR.2 rfl).1.block gl hgl HRG.out, (hR.2 rfl).1.size⟩
    refine ⟨cell_of_heap (h1.1.trans HBX.out) 0, ?_, h1.2.2⟩
    have := HCW.out
    rw [cell_of_heap HCR.out row] at this
    rw [cell_of_heap (h1.2.1.trans HCR.out) row]; exact this
   refine wp_region_otc (n := 9) (fun f W => (f = false → Below X.heap.size X W) ∧ (f = true → Spare (fun k => (Value.slice ra rn rc).ownBlock ≠ some k) X W ∧ KB w0.heap.size X W)) 8 [.v 20 (.slice (some ⟨gl, 0, none⟩) N cv), .v 21 (.int .i64 (row : Nat)), .v 22 (.slice (some ⟨gl, 0, none⟩) N cv), .v 23 (.int .i64 (row : Nat)), .v 24 (.pointer (some ⟨gl, row, none⟩)), .v 25 (.slice ra rn rc), .v 26 (.slice u1 ND.length u3), .p 27 (fun u W => ∃ q, u = .slice (some ⟨q, 0, none⟩) 1 1 ∧ X.heap.size ≤ q ∧ W.heap[q]? = some (.cells #[.slice u1 ND.length u3] 24 (0, 0))), .p 28 (fun u W => ListO w0.heap.size W u (CO ++ [ND]) ∧ (u.ownBlock = (Value.slice ra rn rc).ownBlock ∨ ∀ g, u.ownBlock = some g → X.heap.size ≤ g))] (by exact ⟨(fun _ _ hb _ h => by obtain ⟨q, e, h1, h2⟩ := h; exact ⟨q, e, h1, rowStay h2 hb⟩), (fun _ _ hb u h => ⟨h.1.below hb, h.2⟩), trivial⟩) ⟨fun _ => (Below.refl _ _).drew, fun h => (by cases h)⟩ (fun f W W' h hb => ⟨fun e => (h.1 e).trans (hb.mono (h.1 e).size), fun e => ⟨(h.2 e).1.trans (Spare.of_below _ hb) (fun _ _ h => h), (h.2 e).2.trans (KB.of_below hb (by have := (h.2 e).1.size; omega))⟩⟩) ?_ ?_ ?_
   ·repeat' (with_reducible first | exact eachO_nil | refine eachO_cons ?_ ?_)
    all_goals try
     refine .inr ?_
     intro A x W f hA hR hf hdep D K hK
     have a1 := hA.2 1 (by decide)
     conv at a1 => rhs; whnf
     have a2 := hA.2 2 (by decide)
     conv at a2 => rhs; whnf
     have a6 := hA.2 6 (by decide)
     conv at a6 => rhs; whnf
     simp only [DepF, nthF] at D
     have y0 := (hread W f hR).1
     have y1 := (hread W f hR).2.1
     have y2 := (hread W f hR).2.2
     have y3 : bl < W.heap.size := by omega
     have y4 : gl < W.heap.size := by omega
     clear hdep hA
     go_simp
     exact hK _ _ BR rfl
    any_goals exact .inl rfl
    all_goals refine .inr ?_
    intro A x W f hA hR hf hdep _ K hK
    have g26 := gw hA hdep 6 26
    clear hdep hA
    have g26' : A.tmps[26]?.getD undef = .slice u1 ND.length u3 := by rw [← Array.getD_eq_getD_getElem?]; exact g26
    go_simp
    exact hK _ _ ((Below.refl _ _).alloc (Nat.le_refl _) _) ⟨W.heap.size, rfl, (hread W f hR).2.2, World.alloc_heap_new W _⟩
   ·intro A x W hA hR hdep K hK
    have g25 := gw hA hdep 5 25
    have g27 : (fun u W => ∃ q, u = .slice (some ⟨q, 0, none⟩) 1 1 ∧ X.heap.size ≤ q ∧ W.heap[q]? = some (.cells #[.slice u1 ND.length u3] 24 (0, 0))) (x 27) W := hdep ⟨7, .data⟩ (by simp) rfl
    have a27 : A.tmps.getD 27 undef = x 27 := hA.1 27 (by decide)
    clear hdep hA
    have hB := hR.1 rfl
    have ho := ownsRow_same' HXO.out (fun g _ hg => hB.block g hg)
    obtain ⟨qb, eq, hq1, hq2⟩ := g27
    refine wp_append_src2 _ _ 28 rfl w0.heap.size 24 ib (.slice none 0 0) 24 Try.underlying28 hib hzb hsb hbb rfl (.slice ra rn rc) CO.length xs g25 ho (.slice (some ⟨qb, 0, none⟩) 1 1) 1 [.slice u1 ND.length u3] (a27.trans eq) ⟨rfl, by simp [Value.oneCell'], .inr ⟨⟨qb, 0, none⟩, 1, rfl, src_row hq2⟩⟩ (by unfold maxLen; omega) (by omega) (by have := hB.size; omega) ?_
    intro v' w' k1 k2 k3
    obtain ⟨k4, k5⟩ := kb_grown ho (by decide) k2 (by have := hB.size; omega)
    have hlx : ∀ k, (Value.slice ra rn rc).ownBlock = some k → k < X.heap.size := fun k hk => own_block_lt HXO.out k hk
    have k6 : ListO w0.heap.size w' v' (CO ++ [ND]) := ListO.snoc (w := W) (vs := xs) (x := .slice u1 ND.length u3) (fun i hi => (HXX.out i hi).kb (KB.of_below hB (Nat.zero_le _))) hxl ((HUX.out.kb (KB.of_below hB (Nat.zero_le _))).le hw0) k1 k4
    refine hK v' w' (fun h => by cases h) ⟨fun h => (by cases h), fun _ => ⟨(Spare.of_below _ hB).trans k5 (fun _ _ h => h), (KB.of_below hB (by omega)).trans k4⟩⟩ ⟨.inr (fun _ h => h), .inr (fun _ h => h), .inr (fun _ h => h), .inr (fun _ h => h), .inr (fun _ h => h), .inr (fun _ h => h), .inr (fun _ h => h), .inr (fun u h => by obtain ⟨q, e, j1, j2⟩ := h; exact ⟨q, e, j1, (k5.block q (Array.getElem?_eq_some_iff.1 j2).1 (fun e2 => by have := hlx q e2; omega)).trans j2⟩), .inl rfl, trivial⟩ ⟨k6, ?_⟩
    rcases k3 with k3 | k3
    ·exact .inl k3
    ·refine .inr fun g hg => ?_
     rw [k3] at hg; cases hg; exact hB.size
   intro x W hR hall
   obtain ⟨-, e28, -⟩ := hall
   change (fun u W => ListO w0.heap.size W u (CO ++ [ND]) ∧ (u.ownBlock = (Value.slice ra rn rc).ownBlock ∨ ∀ g, u.ownBlock = some g → X.heap.size ≤ g)) (x 28) W at e28
   obtain ⟨y0, y1, y2⟩ := hread W true hR
   obtain ⟨hsp, hkb⟩ := hR.2 rfl
   obtain ⟨ho8, hat8⟩ := e28
   obtain ⟨ys, hys⟩ := ho8.row
   obtain ⟨a8, n8, c8, e28⟩ := own_slice hys
   rw [e28] at ho8 hat8
   refine thenTail_cons ?_
   simp only [layS, Act.put, List.setIfInBounds_toArray, List.set_cons_zero, List.set_cons_succ, e28]
   have hput := RowsV.put (w1 := W) (x := .slice a8 n8 c8) HVX.out ho8 hkb (by rw [HRV.out]; exact hsp) (by rw [HRV.out]; exact hat8)
   rw [HDR.out] at hput
   have hglW : W.heap[gl]? = some (.cells cr 28 (0, 0)) := (hsp.block gl hgl HRG.out).trans HCR.out
   have hblW : W.heap[bl]? = some (.cells #[.slice (some ⟨gl, 0, none⟩) N cv] 59 (0, 0)) := (hsp.block bl hblX HRB.out).trans HBX.out
   have fr8 : W.frozen? ⟨gl, row, none⟩ = false := frozen_of_row W gl row _ _ hglW
   have y4 : gl < W.heap.size := by omega
   have HPUT := hid hput
   have HGLW := hid hglW
   have HBLW := hid hblW
   have HSP := hid hsp
   have HKB := hid hkb
   have HAT := hid hat8
   generalize x 27 = x27
   clear hput hglW hblW hsp hkb hat8 hys ho8 e28 hR hread y0
   go_wp2_with fail
   refine thenTail_cons ?_
   go_wp2_with fail
   refine thenTail_nil ?_
   have hYo : ∀ k, k ≠ gl → (W.setCell ⟨gl, row, none⟩ (.slice a8 n8 c8)).heap[k]? = W.heap[k]? := fun k hk => heap_setCell_other _ _ _ _ hk
   have hYs : (W.setCell ⟨gl, row, none⟩ (.slice a8 n8 c8)).heap.size = W.heap.size := by simp [World.setCell]
   have hby : ∀ (k : Nat) (c : Array Value), X.heap[k]? = some (.cells c 5 (0, 0)) → (W.setCell ⟨gl, row, none⟩ (.slice a8 n8 c8)).heap[k]? = some (.cells c 5 (0, 0)) := fun k c h => by
    have h3 := HKB.out.bytes k c h
    rw [hYo k (not_type HGLW.out (by decide) k h3)]; exact h3
   have HBY := hid hby
   have HYO := hid hYo
   have HYS := hid hYs
   have HO5 := hid (show (W.setCell ⟨gl, row, none⟩ (.slice a8 n8 c8)).os = w.os ∧ (W.setCell ⟨gl, row, none⟩ (.slice a8 n8 c8)).tape = w.tape ∧ (W.setCell ⟨gl, row, none⟩ (.slice a8 n8 c8)).output = w.output from ⟨HSP.out.os.trans HTX.out.sp.os, HSP.out.tape.trans HTX.out.sp.tape, HSP.out.output.trans HTX.out.sp.output⟩)
   clear hby hYo hYs fr8 y1 y2 y4
   generalize W.setCell ⟨gl, row, none⟩ (.slice a8 n8 c8) = Y at *
   go_wp2
   go_ret
   have hNN := HNN.out
   simp only [List.length_append, List.length_singleton] at hNN
   have hls : vsX.length = N := by have := HVX.out.len; rw [HNN.out] at this; exact this
   refine ⟨_, fun k => k = bl ∨ (Value.slice (some ⟨gl, 0, none⟩) N cv).ownBlock = some k ∨ ∃ i, i < (DO ++ [CO ++ [ND]]).length ∧ ((vsX.set row (.slice a8 n8 c8)).getD i undef).ownBlock = some k, rfl, by rw [hb0]; exact HUX.out.tend HBY.out, ?_, ⟨_, _, (HYO.out bl hnb).trans HBLW.out, h2, by rw [HAP.out]; exact HPUT.out, fun k => by rw [HAP.out]⟩, ?_, fun k c h => HBY.out k c (HTX.out.bytes k c h)⟩
   ·rw [hb0]
    rintro k (hk | hk | ⟨i, hi, hk⟩)
    ·exact HFX.out k (.inl hk)
    ·exact HFX.out k (.inr (.inl hk))
    ·simp only [List.length_append, List.length_singleton] at hi
     rw [getD_set _ _ _ _ _ (by omega)] at hk
     by_cases hi2 : row = i
     ·rw [if_pos hi2] at hk
      rcases HAT.out with h | h
      ·rw [h] at hk
       exact HFX.out k (.inr (.inr ⟨row, by omega, by rw [← HDR.out, HRV.out]; exact hk⟩))
      ·exact .inr (by have := h k hk; omega)
     ·rw [if_neg hi2] at hk
      exact HFX.out k (.inr (.inr ⟨i, by omega, hk⟩))
   ·refine HTX.out.sp.trans (T := fun k => k ≠ gl ∧ (Value.slice ra rn rc).ownBlock ≠ some k) ⟨HO5.out.1.trans HTX.out.sp.os.symm, HO5.out.2.1.trans HTX.out.sp.tape.symm, HO5.out.2.2.trans HTX.out.sp.output.symm, by rw [HYS.out]; exact HSP.out.size, fun k hk hs => (HYO.out k hs.1).trans (HSP.out.block k hk hs.2)⟩ (fun k hk hF => ⟨fun e => ?_, fun e => ?_⟩)
    ·rcases HFX.out k (.inr (.inl (by rw [e]; rfl))) with h | h
     ·exact hF h
     ·omega
    ·rcases HFX.out k (.inr (.inr ⟨row, by omega, by rw [← HDR.out, HRV.out]; exact e⟩)) with h | h
     ·exact hF h
     ·omega
theorem CallAt.cells {w0 w : World} {B : Nat} {s : CallS} {c : List Value} (h : CallAt w0 B w s c) : ∃ bv kv dv, c = [.int .i64 s.k, bv, kv, .bool s.la, .int .i64 s.o, dv] ∧ Hold w bv s.bs ∧ Hold w kv s.kz ∧ Hold w dv s.ds := by
 obtain ⟨a1, n1, c1, a2, n2, c2, a3, n3, c3, rfl, h1, h2, h3⟩ := h
 exact ⟨_, _, _, rfl, h1.hold, h2.hold, h3.hold⟩
theorem flat_at {α : Type} {n : Nat} : ∀ {cs : List (List α)}, (∀ c ∈ cs, c.length = n) → ∀ {i j : Nat}, i < cs.length → j < n → cs.flatten[i * n + j]? = (cs.getD i [])[j]?
 | [], _, i, j, hi, _ => by simp at hi
 | c :: cs, h, i, j, hi, hj => by
  have hc := h c (List.mem_cons_self ..)
  cases i with
  | zero =>
   rw [List.flatten_cons, List.getElem?_append_left (by omega), Nat.zero_mul, Nat.zero_add]
   rfl
  | succ i =>
   have e : (i + 1) * n + j - c.length = i * n + j := by rw [hc, Nat.add_mul]; omega
   rw [List.flatten_cons, List.getElem?_append_right (by rw [hc, Nat.add_mul]; omega), e]
   exact flat_at (fun c hc => h c (List.mem_cons_of_mem _ hc)) (by simpa using hi) hj
theorem CallsO.form {w0 w : World} {B : Nat} {v : Value} {S : List CallS} (h : CallsO w0 B w v S) : ∃ a c, v = .slice a S.length c := by
 obtain ⟨cs, -, ho, -⟩ := h
 rcases ho.2 with ⟨rfl, e⟩ | ⟨g, cap, cur, rfl, -⟩
 ·exact ⟨none, 0, by rw [e]⟩
 ·exact ⟨_, _, rfl⟩
theorem CallsO.get {w0 w : World} {B i : Nat} {v : Value} {S : List CallS} {s : CallS} (h : CallsO w0 B w v S) (hi : i < S.length) (hs : S.getD i .zero = s) :
  ∃ g cap cur bv kv dv, v = .slice (some ⟨g, 0, none⟩) S.length cap ∧ B ≤ g ∧ w.heap[g]? = some (.cells cur 48 (0, 0)) ∧ (∀ j, j < 6 → cur[i * 6 + j]? = (#[.int .i64 s.k, bv, kv, .bool s.la, .int .i64 s.o, dv] : Array Value)[j]?) ∧ Hold w bv s.bs ∧ Hold w kv s.kz ∧ Hold w dv s.ds := by
 obtain ⟨cs, hl, ho, hx⟩ := h
 rcases ho.2 with ⟨-, e⟩ | ⟨g, cap, cur, rfl, h1, h2, h3, h4, h5, h6⟩
 ·omega
 obtain ⟨bv, kv, dv, e, k1, k2, k3⟩ := (hx i hi).cells
 rw [hs] at e k1 k2 k3
 refine ⟨g, cap, cur, bv, kv, dv, rfl, h1, h2, fun j hj => ?_, k1, k2, k3⟩
 have h7 := flat_at (n := 6) (cs := cs) (fun c hc => by
  obtain ⟨q, hq, rfl⟩ := List.mem_iff_getElem.1 hc
  obtain ⟨_, _, _, e, -⟩ := (hx q (by omega)).cells
  rw [List.getD_eq_getElem?_getD (l := cs), List.getElem?_eq_getElem hq] at e
  rw [show cs[q] = _ from e]
  rfl) (i := i) (j := j) (by omega) hj
 rw [e, ← h6, List.getElem?_take] at h7
 rw [if_pos (by omega)] at h7
 rw [← Array.getElem?_toList, h7, ← Array.getElem?_toList]
theorem TreeV.allC_at (t : TreeV) (kz z1 z2 zs : List Int) {m i : Nat} (h : i < m) : (t.allC kz z1 z2 zs m).getD i [] = t.callsR kz z1 z2 zs i := by simp [TreeV.allC, List.getD_eq_getElem?_getD, h]
theorem TreeV.callsR_len {t : TreeV} (h : t.validE = 0) (hl : 0 ≤ t.l ∧ t.l ≤ 4294967295) (kz z1 z2 zs : List Int) (r : Nat) : 1 ≤ (t.callsR kz z1 z2 zs r).length ∧ (t.callsR kz z1 z2 zs r).length ≤ zs.length + 1 := by
 have := TreeV.dataR_facts h hl kz z1 z2 zs r
 unfold TreeV.callsR
 rw [TreeV.rowC_length]
 exact ⟨this.1, this.2.1⟩
theorem TreeV.callsR_sw (t : TreeV) (a1 : Option Addr) (c1 : Nat) (a2 : Option Addr) (c2 : Nat) (a3 : Option Addr) (c3 : Nat) (kz z1 z2 zs : List Int) : ∀ r, (t.sw a1 c1 a2 c2 a3 c3).callsR kz z1 z2 zs r = t.callsR kz z1 z2 zs r
 | 0 => rfl
 | r + 1 => by
  show TreeV.rowC _ _ _ _ _ (TreeV.rootZ _ _ (TreeV.lvlZ _ _ _ _ _ r).length) (TreeV.upZ _ _ (TreeV.lvlZ _ _ _ _ _ r)) (TreeV.upZ _ _ (TreeV.lvlZ _ _ _ _ _ r)).length = _
  rw [TreeV.lvlZ_sw]
  rfl
theorem RowsV.nil (B : Nat) (w : World) : RowsV B w (.slice none 0 0) [] [] := ⟨World.ownsRow_nil _ _ _ _, fun i hi => by simp at hi, fun i j g _ hj => by simp at hj⟩
theorem RowsV.le {B b : Nat} {w : World} {lv : Value} {vs : List Value} {LL : List (List (List Int))} (h : RowsV B w lv vs LL) (hb : b ≤ B) : RowsV b w lv vs LL := ⟨ownsRow_le h.1 hb, fun i hi => (h.2.1 i hi).le hb, h.2.2⟩
theorem RowsV.below {B : Nat} {w w' : World} {lv : Value} {vs : List Value} {LL : List (List (List Int))} (h : RowsV B w lv vs LL) (hb : Below w.heap.size w w') : RowsV B w' lv vs LL :=
 h.tend (KB.of_below hb (Nat.zero_le _)).bytes (fun g hg => hb.block g (own_block_lt h.1 g hg)) (fun i g hi hg => hb.block g (by obtain ⟨xs, hx⟩ := (h.2.1 i hi).row; exact own_block_lt hx g hg))
/-- A row more. -/
theorem RowsV.push {B : Nat} {w w' : World} {lv lv' x : Value} {vs : List Value} {LL : List (List (List Int))} {L : List (List Int)} (h : RowsV B w lv vs LL) (hx : ListO B w x L) (hap : ∀ i g, i < LL.length → (vs.getD i undef).ownBlock = some g → x.ownBlock ≠ some g) (ho : w'.ownsRow B 28 1 lv' (LL.length + 1) (vs ++ [x])) (hk : KB B w w') (hsp : Spare (fun k => lv.ownBlock ≠ some k) w w') : RowsV B w' lv' (vs ++ [x]) (LL ++ [L]) := by
 have hl := h.len
 refine ⟨by simpa using ho, fun i hi => ?_, fun i j g hij hj hg => ?_⟩
 ·simp only [List.length_append, List.length_singleton] at hi
  rw [getD_snoc, getD_snoc, hl]
  by_cases h3 : i < LL.length
  ·rw [if_pos h3, if_pos h3]
   obtain ⟨xs, hxs⟩ := (h.2.1 i h3).row
   exact (h.2.1 i h3).kb hk (own_spare h.1 hxs (by decide) hsp)
  ·rw [if_neg h3, if_neg h3, if_pos (by omega), if_pos (by omega)]
   obtain ⟨xs, hxs⟩ := hx.row
   exact hx.kb hk (own_spare h.1 hxs (by decide) hsp)
 ·simp only [List.length_append, List.length_singleton] at hj
  rw [getD_snoc, hl] at hg ⊢
  by_cases h3 : j < LL.length
  ·rw [if_pos (by omega)] at hg
   rw [if_pos h3]
   exact h.2.2 i j g hij h3 hg
  ·rw [if_pos (by omega)] at hg
   rw [if_neg h3, if_pos (by omega)]
   exact hap i g (by omega) hg
theorem rows_err (t : TreeV) (v : Value) (w : World) (h : t.validE ≠ 0) :
  Calls Try.prog 23 #[t.val, v] w fun e w' => e = .returned (.tuple #[.slice none 0 0, .int .i64 t.validE]) ∧ Below w.heap.size w w' := by
 obtain ⟨b0, hb0⟩ : ∃ b0, w.heap.size = b0 := ⟨_, rfl⟩
 have HVL := hid (valid_any t)
 have hbA : Below b0 w (w.alloc (.cells #[.int .i64 t.k, .int .i64 t.d, .int .i64 t.f, .int .i64 t.p, .int .u32 t.l, .int .i64 t.i, .slice t.ka t.kl t.kc, .slice t.sa t.sl t.sc, .slice t.pa t.pl t.pc] 26)) := by rw [← hb0]; exact (Below.refl _ _).alloc (Nat.le_refl _) _
 have hrA := World.alloc_heap_new w (.cells #[.int .i64 t.k, .int .i64 t.d, .int .i64 t.f, .int .i64 t.p, .int .u32 t.l, .int .i64 t.i, .slice t.ka t.kl t.kc, .slice t.sa t.sl t.sc, .slice t.pa t.pl t.pc] 26)
 rw [hb0] at hrA
 generalize t.validE = ev at *
 have hq : (ev != 0) = true := by rw [bne_iff_ne]; exact h
 clear h
 unfold TreeV.val at *
 go_enter Try.func23, Try.ntmps23
 go_upto_region 1 with (fail)
 generalize w.alloc (.cells #[.int .i64 t.k, .int .i64 t.d, .int .i64 t.f, .int .i64 t.p, .int .u32 t.l, .int .i64 t.i, .slice t.ka t.kl t.kc, .slice t.sa t.sl t.sc, .slice t.pa t.pl t.pc] 26) = wA at *
 go_wp2_with ((with_reducible show wpList _ _ _ (Oper.mk _ (Op.load 26 _) _ _ _ _ :: _) _ _); refine wpList_load_row rfl 26 _ rfl b0 rfl _ _ _ _ hrA Try.underlying26 rfl (by kernel_rfl) ?_)
 refine (HVL.out wA).mono ?_; rintro e w2 ⟨rfl, hb2⟩
 have HB2 := hid (hbA.trans (hb2.mono (by have := (Array.getElem?_eq_some_iff.1 hrA).1; omega)))
 clear hrA hbA hb2
 go_wp2
 go_ret2
 exact ⟨rfl, by rw [hb0]; exact HB2.out⟩
theorem rowsT_ok (t : TreeV) (kz z1 z2 zs : List Int) (v : Value) (w : World) (h : TreeOk t kz z1 z2 w) (hv : Hold w v zs) (hn : zs.length ≤ 4194304) :
  Calls Try.prog 23 #[t.val, v] w fun e w' => ∃ u, e = .returned (.tuple #[u, .int .i64 0]) ∧ (∃ R, t.topAt kz z1 z2 (t.leafZ kz z1 z2 zs) R ∧ ∃ vs, RowsV w.heap.size w' u vs (t.accL (t.allC kz z1 z2 zs R) (t.callsR kz z1 z2 zs R))) ∧ Below w.heap.size w w' := by
 obtain ⟨b0, hb0⟩ : ∃ b0, w.heap.size = b0 := ⟨_, rfl⟩
 have hvl := valid_any t
 simp only [h.v] at hvl
 have HVL := hid hvl
 have HT := hid h
 have HCU := hid (fun (W : World) (hb : Below b0 w W) => cut_ok t h.v h.l zs v W (hv.below (hb0 ▸ hb)) (by omega))
 have HRO := hid (fun (bl : Nat) (W : World) (x : Value) (F0 : Nat → Prop) (hw : Below w.heap.size w W) (hI : AccR t w bl [] [] F0 W) (hx : ListO w.heap.size W x (cutZ t.ln zs)) (hxF : ∀ g, x.ownBlock = some g → ¬ F0 g) => rows_see (seer_rows h bl) h hn x W F0 hw hI hx hxF enter_rows)
 obtain ⟨va, vc, rfl, -, -⟩ := hv.slice
 have hbA : Below b0 w (w.alloc (.cells #[.int .i64 t.k, .int .i64 t.d, .int .i64 t.f, .int .i64 t.p, .int .u32 t.l, .int .i64 t.i, .slice t.ka t.kl t.kc, .slice t.sa t.sl t.sc, .slice t.pa t.pl t.pc] 26)) := by rw [← hb0]; exact (Below.refl _ _).alloc (Nat.le_refl _) _
 have hrA := World.alloc_heap_new w (.cells #[.int .i64 t.k, .int .i64 t.d, .int .i64 t.f, .int .i64 t.p, .int .u32 t.l, .int .i64 t.i, .slice t.ka t.kl t.kc, .slice t.sa t.sl t.sc, .slice t.pa t.pl t.pc] 26)
 rw [hb0] at hrA
 generalize hCZ : cutZ t.ln zs = CZ at *
 clear h hv hvl hCZ
 unfold TreeV.val at *
 go_enter Try.func23, Try.ntmps23
 go_upto_region 1 with (fail)
 generalize w.alloc (.cells #[.int .i64 t.k, .int .i64 t.d, .int .i64 t.f, .int .i64 t.p, .int .u32 t.l, .int .i64 t.i, .slice t.ka t.kl t.kc, .slice t.sa t.sl t.sc, .slice t.pa t.pl t.pc] 26) = wA at *
 go_wp2_with ((with_reducible show wpList _ _ _ (Oper.mk _ (Op.load 26 _) _ _ _ _ :: _) _ _); refine wpList_load_row rfl 26 _ rfl b0 rfl _ _ _ _ hrA Try.underlying26 rfl (by kernel_rfl) ?_)
 refine (HVL.out wA).mono ?_; rintro e w2 ⟨rfl, hb2⟩
 have hr2 := rowStay hrA hb2
 have hB2 := hbA.trans (hb2.mono (by have := (Array.getElem?_eq_some_iff.1 hrA).1; omega))
 have HB2 := hid hB2
 have hs2 : b0 < w2.heap.size := (Array.getElem?_eq_some_iff.1 hr2).1
 clear hrA hbA hb2 hB2
 go_upto_region 5 with (fail)
 refine letterW ?_
 intro V hV
 obtain ⟨bl, hbl⟩ : ∃ bl, w2.heap.size = bl := ⟨_, rfl⟩
 have hrB : V.heap[bl]? = some (.cells #[.slice none 0 0] 59 (0, 0)) := by rw [hV, ← hbl]; exact World.alloc_heap_new _ _
 have hbV : Below bl w2 V := by rw [hV, ← hbl]; exact (Below.refl _ _).alloc (Nat.le_refl _) _
 have hrV : V.heap[b0]? = some (.cells #[.int .i64 t.k, .int .i64 t.d, .int .i64 t.f, .int .i64 t.p, .int .u32 t.l, .int .i64 t.i, .slice t.ka t.kl t.kc, .slice t.sa t.sl t.sc, .slice t.pa t.pl t.pc] 26 (0, 0)) := (hbV.block b0 (by omega)).trans hr2
 have HBV := hid (HB2.out.trans (hbV.mono (show b0 ≤ bl by omega)))
 have hsV : bl < V.heap.size := (Array.getElem?_eq_some_iff.1 hrB).1
 have hacc : AccR t w bl [] [] (fun k => k = bl) V := ⟨.slice none 0 0, [], hrB, by omega, RowsV.nil _ _, fun k => ⟨fun h => .inl h, fun h => by
  rcases h with h | h | ⟨i, hi, h⟩
  ·exact h
  ·cases h
  ·simp [TreeV.accL] at hi⟩⟩
 have HACC := hid hacc
 rw [hbl]
 have hb0l : b0 < bl := by omega
 clear hV hbV hr2 hbl hrB hacc
 refine wp_region_c (n := 5) (w0 := V) (B := V.heap.size) [.v 13 (.agg #[.int .i64 t.k, .int .i64 t.d, .int .i64 t.f, .int .i64 t.p, .int .u32 t.l, .int .i64 t.i, .slice t.ka t.kl t.kc, .slice t.sa t.sl t.sc, .slice t.pa t.pl t.pc]), .v 14 (.agg #[.int .i64 t.k, .int .i64 t.d, .int .i64 t.f, .int .i64 t.p, .int .u32 t.l, .int .i64 t.i, .slice t.ka t.kl t.kc, .slice t.sa t.sl t.sc, .slice t.pa t.pl t.pc]), .v 15 (.slice va zs.length vc), .p 16 (fun u W => ListO V.heap.size W u CZ), .v 17 (.func (.func 42) #[] #[.pointer (some ⟨bl, 0, none⟩)])] (by exact ⟨(fun _ _ _ h hb => ListO.below h hb), trivial⟩) (Below.refl _ _).drew (Nat.le_refl _) ?_ ?_
 ·repeat' (with_reducible first | exact eachO_nil | refine eachO_cons ?_ ?_)
  ·intro AA x W hA hW hBW hdep D K hK
   have a2 := hA.2 2 (by decide)
   conv at a2 => rhs; whnf
   clear hdep hA
   exact wp_load_row 26 _ rfl b0 a2 _ _ _ _ (rowStay hrV hW) Try.underlying26 rfl (by kernel_rfl) (hK _ _ (Below.refl _ _) rfl)
  ·intro AA x W hA hW hBW hdep D K hK
   have a2 := hA.2 2 (by decide)
   conv at a2 => rhs; whnf
   clear hdep hA
   exact wp_load_row 26 _ rfl b0 a2 _ _ _ _ (rowStay hrV hW) Try.underlying26 rfl (by kernel_rfl) (hK _ _ (Below.refl _ _) rfl)
  ·intro AA x W hA hW hBW hdep D K hK
   have a1 := hA.2 1 (by decide)
   conv at a1 => rhs; whnf
   clear hdep hA
   go_simp
   exact hK _ _ (Below.refl _ _) rfl
  ·intro AA x W hA hW hBW hdep _ K hK
   have g14 := gv hA hdep 1 14
   have g15 := gv hA hdep 2 15
   clear hdep hA
   go_simp
   refine (HCU.out W (HBV.out.trans (hW.mono (by omega)))).mono ?_; rintro e w5 ⟨u, rfl, ho, hb5⟩
   exact hK _ _ hb5 (ho.le hBW)
  ·intro AA x W hA hW hBW hdep D K hK
   have a7 := hA.2 7 (by decide)
   conv at a7 => rhs; whnf
   clear hdep hA
   go_simp
   exact hK _ _ (Below.refl _ _) rfl
 intro x W hW hBW hall
 obtain ⟨e16, -⟩ := hall
 change (fun u W => ListO V.heap.size W u CZ) (x 16) W at e16
 refine thenTail_cons ?_
 simp only [layS, Act.put, List.setIfInBounds_toArray, List.set_cons_zero, List.set_cons_succ]
 generalize x 16 = X at *
 have hxF : ∀ g, X.ownBlock = some g → ¬ g = bl := fun g hg e => by
  obtain ⟨vs, ho, -⟩ := e16
  rcases ho.2 with ⟨rfl, -⟩ | ⟨g2, cap, cur, rfl, h5, -⟩
  ·cases hg
  ·simp only [Value.ownBlock, Option.some.injEq] at hg; omega
 have hbW := HBV.out.trans (hW.mono (show b0 ≤ V.heap.size by omega))
 have hk := KB.of_below hW (Nat.zero_le _)
 have hacW := (seer_rows HT.out bl).keep HACC.out (hW.mono (show w.heap.size ≤ V.heap.size by omega)) (fun k hk => hW.block k (by rw [show k = bl from hk]; exact hsV)) hk.bytes
 have HR := hid (HRO.out bl W X (fun k => k = bl) (by rw [hb0]; exact hbW) hacW (by rw [hb0]; exact e16.le (by omega)) hxF)
 have HBW := hid hbW
 have hblW : bl < W.heap.size := by have := hW.size; omega
 clear e16 hxF hbW hk hacW HRO HACC hrV
 go_wp2_with fail
 refine HR.out.mono ?_; rintro e w6 ⟨rfl, ⟨R, F', hR, hI, -⟩, hb6, -⟩
 go_wp2_with fail
 refine thenTail_nil ?_
 obtain ⟨lv, vs, l1, l2, l3, -⟩ := hI
 obtain ⟨la1, ln1, lc1, rfl⟩ := own_slice l3.1
 have c0 : w6.cell? ⟨bl, 0, none⟩ = some (.slice la1 ln1 lc1) := cell_of_heap l1 0
 have s0 : bl < w6.heap.size := (Array.getElem?_eq_some_iff.1 l1).1
 have HL3 := hid l3
 have HB6 := hid hb6
 have HTOP := hid hR
 clear l1 l3 hb6 hR
 go_wp2
 go_ret2
 exact ⟨_, rfl, ⟨R, HTOP.out, _, HL3.out⟩, (show Below w.heap.size w W by rw [hb0]; exact HBW.out).trans HB6.out⟩
theorem TreeV.callsR_at (t : TreeV) (kz z1 z2 zs : List Int) {r k : Nat} (h : k < (t.dataR kz z1 z2 zs r).length) : (t.callsR kz z1 z2 zs r).getD k .zero = t.callS kz z1 z2 r k (decide (k + 1 = (t.dataR kz z1 z2 zs r).length)) (t.rtR kz z1 z2 zs r) (nthL (t.dataR kz z1 z2 zs r) k) := by simp [TreeV.callsR, TreeV.rowC, List.getD_eq_getElem?_getD, h]
theorem take_mapS {α β : Type} (f : α → β) {L : List α} {k : Nat} (d : α) (h : k < L.length) : (L.take (k + 1)).map f = (L.take k).map f ++ [f (L.getD k d)] := by
 rw [List.take_succ, List.map_append]
 simp [List.getD_eq_getElem?_getD, h]
/-- Blocks of bytes stay such. -/
def Keeps (w w' : World) : Prop := ∀ (g : Nat) (cur : Array Value), w.heap[g]? = some (.cells cur 5 (0, 0)) → ∃ cur' : Array Value, w'.heap[g]? = some (.cells cur' 5 (0, 0)) ∧ cur'.size = cur.size ∧ ∀ (j : Nat) (z : Int), cur[j]? = some (.int .u8 z) → ∃ z' : Int, cur'[j]? = some (.int .u8 z')
theorem Keeps.refl (w : World) : Keeps w w := fun _ cur h => ⟨cur, h, rfl, fun _ z h => ⟨z, h⟩⟩
theorem Keeps.trans {w w' w'' : World} (h : Keeps w w') (k : Keeps w' w'') : Keeps w w'' := fun g cur hg => by
 obtain ⟨c1, h1, h2, h3⟩ := h g cur hg
 obtain ⟨c2, k1, k2, k3⟩ := k g c1 h1
 refine ⟨c2, k1, k2.trans h2, fun j z hz => ?_⟩
 obtain ⟨z', hz'⟩ := h3 j z hz
 exact k3 j z' hz'
theorem Keeps.of_bytes {w w' : World} (h : ∀ (k : Nat) (c : Array Value), w.heap[k]? = some (.cells c 5 (0, 0)) → w'.heap[k]? = some (.cells c 5 (0, 0))) : Keeps w w' := fun g cur hg => ⟨cur, h g cur hg, rfl, fun _ z h => ⟨z, h⟩⟩
theorem Keeps.of_below {w w' : World} (hb : Below w.heap.size w w') : Keeps w w' := Keeps.of_bytes (KB.of_below hb (Nat.zero_le _)).bytes
theorem Keeps.of_spare {S : Nat → Prop} {w w' : World} (h : Spare S w w') (hS : ∀ k, S k) : Keeps w w' := Keeps.of_bytes fun k c hk => by rw [h.block k (Array.getElem?_eq_some_iff.1 hk).1 (hS k)]; exact hk
theorem Keeps.set {w : World} {g : Nat} {cur : Array Value} (h : w.heap[g]? = some (.cells cur 5 (0, 0))) (m : Nat) (z : Int) : Keeps w (w.setCell ⟨g, m, none⟩ (.int .u8 z)) := fun g' cur' h' => by
 by_cases e : g' = g
 ·subst e
  rw [h] at h'
  simp only [Option.some.injEq, Obj.cells.injEq] at h'
  obtain ⟨rfl, -, -⟩ := h'
  refine ⟨_, heap_setCell_same _ g' m cur _ _ h, by simp, fun j z' hz => ?_⟩
  rw [Array.getElem?_setIfInBounds]
  split
  ·rename_i e2
   split
   ·exact ⟨z, rfl⟩
   ·rename_i e3
    subst e2
    rw [Array.getElem?_eq_none (by omega)] at hz
    cases hz
  ·exact ⟨z', hz⟩
 ·exact ⟨cur', (heap_setCell_other _ _ _ _ e).trans h', rfl, fun _ z h => ⟨z, h⟩⟩
/-- Bytes of one's own block, whatever they be. -/
def Spl (w : World) (v : Value) (n : Nat) : Prop := (v = .slice none 0 0 ∧ n = 0) ∨ ∃ g cap cur, v = .slice (some ⟨g, 0, none⟩) n cap ∧ w.heap[g]? = some (.cells cur 5 (0, 0)) ∧ n ≤ cap ∧ cap ≤ cur.size ∧ cap ≤ maxLen ∧ ∀ j, j < n → ∃ z : Int, cur[j]? = some (.int .u8 z)
theorem Spl.keep {w w' : World} {v : Value} {n : Nat} (h : Spl w v n) (k : Keeps w w') : Spl w' v n := by
 rcases h with h | ⟨g, cap, cur, e, h1, h2, h3, h4, h5⟩
 ·exact .inl h
 ·obtain ⟨c, k1, k2, k3⟩ := k g cur h1
  refine .inr ⟨g, cap, c, e, k1, h2, by omega, h4, fun j hj => ?_⟩
  obtain ⟨z, hz⟩ := h5 j hj
  exact k3 j z hz
theorem Spl.of_own {B : Nat} {w : World} {v : Value} {zs : List Int} (h : OwnB B w v zs) : Spl w v zs.length := by
 rcases h.2 with ⟨rfl, rfl⟩ | ⟨g, cap, cur, rfl, h1, h2, h3, h4, h5, h6⟩
 ·exact .inl ⟨rfl, rfl⟩
 ·refine .inr ⟨g, cap, cur, rfl, h2, h3, h4, h5, fun j hj => ?_⟩
  have := congrArg (fun l : List Value => l[j]?) h6
  simp only [List.getElem?_take, hj, if_true, List.getElem?_map, List.getElem?_eq_getElem hj, Option.map_some] at this
  exact ⟨zs[j], by simpa [encB] using this⟩
/-- Bytes that are being spoilt: of block ob, or of a new one; all else stays. -/
def SpK (ob : Option Nat) (w wr : World) (v : Value) (m : Nat) : Prop :=
 (Spare (fun k => ob ≠ some k) w wr ∧ Keeps w wr) ∧ ((v = .slice none 0 0 ∧ m = 0) ∨ ∃ g cap cur, v = .slice (some ⟨g, 0, none⟩) m cap ∧ wr.heap[g]? = some (.cells cur 5 (0, 0)) ∧ m ≤ cap ∧ cap ≤ cur.size ∧ cap ≤ maxLen ∧ (ob = some g ∨ w.heap.size ≤ g))
theorem cell_curK {w : World} {g : Nat} {cur : Array Value} {T : TypeId} (h : w.heap[g]? = some (.cells cur T (0, 0))) (j : Nat) : w.cell? ⟨g, j, none⟩ = cur[j]? := by
 rw [cell_of_heap h j]
theorem wpList_spoilK {ops : Array Oper} {rest : List Oper} {o : Oper} {a : Act} {Q : Exit → Act → World → Prop} (hgd : o.guard = none) (s x : Operand)
  (ho : o.op = .call { callee := .builtin .append, args := #[s, x], argTypes := #[24, 24] }) {ob : Option Nat} {w W : World} {v : Value} {m : Nat} (hs : a.eval s = v) (hv : SpK ob w W v m)
  (u : Value) (hu : ∃ z, u = .int .u8 z) (T : TypeId) (hx : a.eval x = .slice (some ⟨W.heap.size, 0, none⟩) 1 1) (hm : m ≤ 70368744177000)
  (h : ∀ v' w', SpK ob w w' v' (m + 1) → wpList Try.prog ops Q rest (a.put o.dst v') w') : wpList Try.prog ops Q (o :: rest) a (W.alloc (.cells #[u] T)) := by
 obtain ⟨i0, hi, hz0, hz1, hz2⟩ := info_parts info_u8
 obtain ⟨⟨hsp, hkp⟩, hv⟩ := hv
 obtain ⟨uz, rfl⟩ := hu
 have hka : Keeps w (W.alloc (.cells #[.int .u8 uz] T)) := hkp.trans (Keeps.of_below ((Below.refl _ _).alloc (Nat.le_refl _) _))
 have hal : Spare (fun k => ob ≠ some k) w (W.alloc (.cells #[.int .u8 uz] T)) := hsp.trans (Spare.of_below _ ((Below.refl _ _).alloc (Nat.le_refl _) _)) (fun _ _ h => h)
 have hsz : W.heap.size < (W.alloc (.cells #[.int .u8 uz] T)).heap.size := by simp
 have hws := hsp.size
 rcases hv with ⟨rfl, rfl⟩ | ⟨g, cap, cur, rfl, h1, h2, h3, h4, h5⟩
 ·refine wpList_append_now hgd s x _ ho (W.alloc (.cells #[.int .u8 uz] T)) _ rfl (Below.refl _ _) 5 i0 (.int .u8 0) 1 Try.underlying24 hi hz0 hz1 hz2 rfl _ 0 [] hs (World.ownsRow_nil _ _ _ _) _ 1 [.int .u8 uz] hx (src_new W _ T rfl) (by unfold maxLen; omega) (by omega) ?_
  intro v' w' hown hb
  refine h v' w' ⟨⟨hal.trans (Spare.of_below _ hb) (fun _ _ h => h), hka.trans (Keeps.of_below hb)⟩, .inr ?_⟩
  rcases hown.2 with ⟨-, h0⟩ | ⟨g, cap, cur, rfl, k1, k2, k3, k4, k5, -⟩
  ·omega
  ·exact ⟨g, cap, cur, rfl, k2, by omega, by omega, k4, .inr (by omega)⟩
 ·have hg : g < W.heap.size := (Array.getElem?_eq_some_iff.1 h1).1
  have h1' : (W.alloc (.cells #[.int .u8 uz] T)).heap[g]? = some (.cells cur 5 (0, 0)) := ((Below.refl W.heap.size W).alloc (Nat.le_refl _) _).block g hg |>.trans h1
  refine wpList_append_arg _ hgd s x _ ho 5 i0 (.int .u8 0) 1 1 Try.underlying24 hi hz0 hz1 hz2 rfl (by decide) g 0 m cap (cur.toList.take m) hs (by simp; omega) (fun j u' hj => ?_) _ 1 1 [.int .u8 uz] hx rfl (cell_one_new W _ T) (by simp [Value.oneCell']) (fun hr j hj => ?_) (by unfold maxLen; omega) (by omega) (fun hr => ?_) (fun hr v' w' hown hgr => ?_)
  ·rw [Nat.zero_add, cell_curK h1']
   rw [List.getElem?_take] at hj
   split at hj
   ·simpa using hj
   ·cases hj
  ·obtain rfl : j = 0 := by simpa using hj
   rw [Nat.zero_add, Nat.mul_one, Nat.add_zero, cell_curK h1']
   refine ⟨?_, frozen_of_row _ g m _ _ h1'⟩
   rw [Array.getElem?_eq_getElem (by omega)]; rfl
  ·rw [Nat.zero_add, Nat.mul_one]
   show wpList _ _ _ _ _ ((W.alloc (.cells #[.int .u8 uz] T)).setCell ⟨g, m, none⟩ (.int .u8 uz))
   refine h _ _ ⟨⟨hal.trans (T := fun k => k ≠ g) ⟨rfl, rfl, rfl, by simp [World.setCell], fun k _ hk => heap_setCell_other _ _ _ _ hk⟩ (fun k hk hne e => ?_), hka.trans (Keeps.set h1' m uz)⟩, .inr ⟨g, cap, _, rfl, heap_setCell_same _ g m cur _ _ h1', hr, by simpa using h3, h4, h5⟩⟩
   subst e
   rcases h5 with h5 | h5
   ·exact hne h5
   ·omega
  ·refine h v' w' ⟨⟨hal.trans (Spare.of_grown hgr) (fun _ _ _ e => by cases e), hka.trans (Keeps.of_spare (Spare.of_grown hgr) (fun _ e => by cases e))⟩, .inr ?_⟩
   rcases hown.2 with ⟨-, h0⟩ | ⟨g', cap', cur', rfl, k1, k2, k3, k4, k5, -⟩
   ·omega
   ·exact ⟨g', cap', cur', rfl, k2, by omega, by omega, k4, .inr (by omega)⟩
theorem ListO.form {B : Nat} {w : World} {v : Value} {L : List (List Int)} (h : ListO B w v L) : ∃ a c, v = .slice a L.length c ∧ (L.length : Int) ≤ 9223372036854775807 := by
 obtain ⟨vs, ho, -⟩ := h
 rcases ho.2 with ⟨rfl, e⟩ | ⟨g, cap, cur, rfl, -, -, h3, h4, -⟩
 ·exact ⟨none, 0, by rw [e], by omega⟩
 ·exact ⟨_, _, rfl, by unfold maxLen at h4; omega⟩
/-- The outputs of all nodes, and of the leaves (none of a tree that may not be). -/
def TreeV.rowsZ (t : TreeV) (kz z1 z2 zs : List Int) : List (List (List Int)) := if t.validE = 0 then (t.allC kz z1 z2 zs ((t.rowsOf zs.length).length - 1 + 1)).map (·.map t.outC) else []
def TreeV.levZ (t : TreeV) (kz z1 z2 zs : List Int) : List (List Int) := if t.validE = 0 then t.leafZ kz z1 z2 zs else []
theorem TreeV.rowsZ_sw (t : TreeV) (a1 : Option Addr) (c1 : Nat) (a2 : Option Addr) (c2 : Nat) (a3 : Option Addr) (c3 : Nat) (kz z1 z2 zs : List Int) : (t.sw a1 c1 a2 c2 a3 c3).rowsZ kz z1 z2 zs = t.rowsZ kz z1 z2 zs := by
 unfold TreeV.rowsZ TreeV.allC
 rw [show (t.sw a1 c1 a2 c2 a3 c3).callsR kz z1 z2 zs = t.callsR kz z1 z2 zs from funext (TreeV.callsR_sw t a1 c1 a2 c2 a3 c3 kz z1 z2 zs)]
 rfl
theorem TreeV.rowsZ_zero {t : TreeV} (h : t.validE = 0) (kz z1 z2 zs : List Int) : 0 < (t.rowsZ kz z1 z2 zs).length ∧ (t.rowsZ kz z1 z2 zs).getD 0 [] = t.levZ kz z1 z2 zs := by
 unfold TreeV.rowsZ TreeV.levZ
 rw [if_pos h, if_pos h]
 refine ⟨by rw [List.length_map, TreeV.allC_length]; omega, ?_⟩
 rw [List.getD_eq_getElem?_getD, List.getElem?_map]
 have h1 := TreeV.allC_at t kz z1 z2 zs (m := (t.rowsOf zs.length).length - 1 + 1) (i := 0) (by omega)
 rw [List.getD_eq_getElem?_getD] at h1
 have h2 : 0 < (t.allC kz z1 z2 zs ((t.rowsOf zs.length).length - 1 + 1)).length := by rw [TreeV.allC_length]; omega
 rw [List.getElem?_eq_getElem h2] at h1 ⊢
 rw [Option.map_some, Option.getD_some]
 rw [Option.getD_some] at h1
 rw [h1]
 unfold TreeV.callsR TreeV.rowC TreeV.leafZ TreeV.rowZ
 rw [List.map_map]
 rfl
theorem rows_any (t : TreeV) (kz z1 z2 zs : List Int) (v : Value) (w : World) (hl : 0 ≤ t.l ∧ t.l ≤ 4294967295) (hk : Hold w (.slice t.ka t.kl t.kc) kz) (hs : Hold w (.slice t.sa t.sl t.sc) z1) (hp : Hold w (.slice t.pa t.pl t.pc) z2) (hv : Hold w v zs) (hn : zs.length ≤ 4194304) :
  Calls Try.prog 23 #[t.val, v] w fun e w' => ∃ u vs, e = .returned (.tuple #[u, .int .i64 t.validE]) ∧ RowsV w.heap.size w' u vs (t.rowsZ kz z1 z2 zs) ∧ Below w.heap.size w w' := by
 unfold TreeV.rowsZ
 by_cases h : t.validE = 0
 ·refine (rowsT_ok t kz z1 z2 zs v w ⟨h, hl, hk, hs, hp⟩ hv hn).mono ?_
  rintro e w' ⟨u, rfl, ⟨R, hR, vs, ho⟩, hb⟩
  have hL := TreeV.leafZ_facts h hl kz z1 z2 zs
  have hT := top_rows (err_small h hn) kz z1 z2 (leafZ_rows h hl kz z1 z2 zs) hL.2.2
  rw [TreeV.topAt_one hR hT] at ho
  refine ⟨u, vs, by rw [h], ?_, hb⟩
  rw [if_pos h, TreeV.allC_succ, List.map_append]
  rw [accL_cur t _ (List.length_pos_iff.1 (TreeV.callsR_len h hl kz z1 z2 zs _).1)] at ho
  exact ho
 ·refine (rows_err t v w h).mono ?_
  rintro e w' ⟨rfl, hb⟩
  exact ⟨_, [], rfl, by rw [if_neg h]; exact RowsV.nil _ _, hb⟩
theorem leaves_any (t : TreeV) (kz z1 z2 zs : List Int) (v : Value) (w : World) (hl : 0 ≤ t.l ∧ t.l ≤ 4294967295) (hk : Hold w (.slice t.ka t.kl t.kc) kz) (hs : Hold w (.slice t.sa t.sl t.sc) z1) (hp : Hold w (.slice t.pa t.pl t.pc) z2) (hv : Hold w v zs) (hn : zs.length ≤ 4194304) :
  Calls Try.prog 9 #[t.val, v] w fun e w' => ∃ u, e = .returned (.tuple #[u, .int .i64 t.validE]) ∧ ListO w.heap.size w' u (t.levZ kz z1 z2 zs) ∧ Below w.heap.size w w' := by
 unfold TreeV.levZ
 by_cases h : t.validE = 0
 ·refine (leaves_ok t kz z1 z2 zs v w ⟨h, hl, hk, hs, hp⟩ hv hn).mono ?_
  rintro e w' ⟨u, rfl, ho, hb⟩
  exact ⟨u, by rw [h], by rw [if_pos h]; exact ho, hb⟩
 ·refine (leaves_err t v w h).mono ?_
  rintro e w' ⟨rfl, hb⟩
  exact ⟨_, rfl, by rw [if_neg h]; exact ListO.nil _ _, hb⟩
/-- All calls of a tree's nodes (none of a tree that may not be). -/
def TreeV.calZ (t : TreeV) (kz z1 z2 zs : List Int) : List CallS := if t.validE = 0 then (t.allC kz z1 z2 zs ((t.rowsOf zs.length).length - 1 + 1)).flatten else []
theorem TreeV.calZ_sw (t : TreeV) (a1 : Option Addr) (c1 : Nat) (a2 : Option Addr) (c2 : Nat) (a3 : Option Addr) (c3 : Nat) (kz z1 z2 zs : List Int) : (t.sw a1 c1 a2 c2 a3 c3).calZ kz z1 z2 zs = t.calZ kz z1 z2 zs := by
 unfold TreeV.calZ TreeV.allC
 rw [show (t.sw a1 c1 a2 c2 a3 c3).callsR kz z1 z2 zs = t.callsR kz z1 z2 zs from funext (TreeV.callsR_sw t a1 c1 a2 c2 a3 c3 kz z1 z2 zs)]
 rfl
/-- What both Calls answer. -/
def CalIs (t : TreeV) (kz z1 z2 zs : List Int) (w : World) (e : Ending) (w' : World) : Prop :=
 ∃ u, e = .returned (.tuple #[u, .int .i64 t.validE]) ∧ CallsO w w.heap.size w' u (t.calZ kz z1 z2 zs) ∧ Below w.heap.size w w'
theorem calls_any (t : TreeV) (kz z1 z2 zs : List Int) (v : Value) (w : World) (hl : 0 ≤ t.l ∧ t.l ≤ 4294967295) (hk : Hold w (.slice t.ka t.kl t.kc) kz) (hs : Hold w (.slice t.sa t.sl t.sc) z1) (hp : Hold w (.slice t.pa t.pl t.pc) z2) (hv : Hold w v zs) (hn : zs.length ≤ 4194304) :
  Calls Try.prog 14 #[t.val, v] w fun e w' => CalIs t kz z1 z2 zs w e w' := by
 by_cases h : t.validE = 0
 ·refine (calls_ok t kz z1 z2 zs v w ⟨h, hl, hk, hs, hp⟩ hv hn).mono ?_
  rintro e w' ⟨u, rfl, ⟨R, hR, ho⟩, hb⟩
  have hL := TreeV.leafZ_facts h hl kz z1 z2 zs
  have hT := top_rows (err_small h hn) kz z1 z2 (leafZ_rows h hl kz z1 z2 zs) hL.2.2
  rw [TreeV.topAt_one hR hT] at ho
  refine ⟨u, by rw [h], ?_, hb⟩
  unfold TreeV.calZ
  rw [if_pos h, TreeV.allC_succ, List.flatten_append, List.flatten_singleton]
  exact ho
 ·refine (calls_err t v w h).mono ?_
  rintro e w' ⟨rfl, hb⟩
  exact ⟨_, rfl, by unfold TreeV.calZ; rw [if_neg h]; exact CallsO.nil _ _ _, hb⟩
theorem flat_getD {α : Type} {d : α} : ∀ {AC : List (List α)} {r k : Nat}, r < AC.length → k < (AC.getD r []).length → (AC.take r).flatten.length + k < AC.flatten.length ∧ AC.flatten.getD ((AC.take r).flatten.length + k) d = (AC.getD r []).getD k d
 | [], r, k, h, _ => by simp at h
 | a :: ls, 0, k, _, hk => by
  have hk2 : k < a.length := hk
  rw [List.take_zero, List.flatten_nil, List.length_nil, Nat.zero_add, List.flatten_cons, List.length_append]
  refine ⟨by omega, ?_⟩
  rw [getD_app, if_pos hk2]
  rfl
 | a :: ls, r + 1, k, h, hk => by
  have hr : r < ls.length := by simpa using h
  have hk2 : k < (ls.getD r []).length := hk
  obtain ⟨h1, h2⟩ := flat_getD (d := d) hr hk2
  rw [List.take_succ_cons, List.flatten_cons, List.flatten_cons, List.length_append, List.length_append]
  refine ⟨by omega, ?_⟩
  rw [getD_app, if_neg (by omega), show a.length + (ls.take r).flatten.length + k - a.length = (ls.take r).flatten.length + k by omega, h2]
  rfl
theorem foldl_mod : ∀ (L : List Nat) (s : Nat), s < 18446744073709551616 → L.foldl (fun s n => (s + n) % 18446744073709551616) s = (s + L.sum) % 18446744073709551616
 | [], s, h => by simp [Nat.mod_eq_of_lt h]
 | n :: L, s, h => by
  simp only [List.foldl_cons, List.sum_cons]
  rw [foldl_mod L _ (Nat.mod_lt _ (by decide)), Nat.mod_add_mod, Nat.add_assoc]
theorem sumU_sum {L : List Nat} (h : L.sum < 18446744073709551616) : sumU L = L.sum := by
 unfold sumU
 rw [foldl_mod L 0 (by decide), Nat.zero_add, Nat.mod_eq_of_lt h]
/-- As many calls as shape tells. -/
theorem TreeV.calls_count {t : TreeV} (h : t.validE = 0) (hl : 0 ≤ t.l ∧ t.l ≤ 4294967295) (kz z1 z2 zs : List Int) (hn : zs.length ≤ 4194304) : (t.calZ kz z1 z2 zs).length = (t.rowsOf zs.length).sum := by
 have he := err_small h hn
 have hR := TreeV.rows_is he
 have hlen := hR.len
 have hL := TreeV.leafZ_facts h hl kz z1 z2 zs
 unfold TreeV.calZ
 rw [if_pos h, List.length_flatten]
 congr 1
 refine List.ext_getElem? fun i => ?_
 rw [List.getElem?_map]
 by_cases hi : i < (t.rowsOf zs.length).length
 ·have h2 : i < (t.allC kz z1 z2 zs ((t.rowsOf zs.length).length - 1 + 1)).length := by rw [TreeV.allC_length]; omega
  have h1 := TreeV.allC_at t kz z1 z2 zs (m := (t.rowsOf zs.length).length - 1 + 1) (i := i) (by omega)
  rw [List.getD_eq_getElem?_getD, List.getElem?_eq_getElem h2, Option.getD_some] at h1
  rw [List.getElem?_eq_getElem h2, List.getElem?_eq_getElem hi, Option.map_some, h1]
  have h3 := TreeV.lvl_rows he kz z1 z2 (leafZ_rows h hl kz z1 z2 zs) hL.2.2 i hi
  rw [TreeV.lvl_is, TreeV.rowZ_length] at h3
  unfold TreeV.callsR
  rw [TreeV.rowC_length, h3]
  unfold nth
  rw [List.getD_eq_getElem?_getD, List.getElem?_eq_getElem hi]
  rfl
 ·rw [List.getElem?_eq_none (l := t.rowsOf zs.length) (by omega), List.getElem?_eq_none (by rw [TreeV.allC_length]; omega)]
  rfl
/-- Bytes behind bytes of one's own. -/
theorem wpList_catO {ops : Array Oper} {rest : List Oper} {o : Oper} {a : Act} {Q : Exit → Act → World → Prop} {W : World} (hgd : o.guard = none) (s x : Operand)
 (ho : o.op = .call { callee := .builtin .append, args := #[s, x], argTypes := #[24, 24] }) (B : Nat) (v u : Value) (zs ys : List Int) (hs : a.eval s = v) (hown : W.ownsRow B 5 1 v zs.length (zs.map encB)) (hx : a.eval x = u) (hz : Hold W u ys) (h63 : zs.length + ys.length ≤ 140737488355328) (hB : B ≤ W.heap.size)
 (h : ∀ v' w', w'.ownsRow B 5 1 v' (zs ++ ys).length ((zs ++ ys).map encB) → Spare (fun k => v.ownBlock ≠ some k) W w' → (v'.ownBlock = v.ownBlock ∨ v'.ownBlock = some W.heap.size) → wpList Try.prog ops Q rest (a.put o.dst v') w') : wpList Try.prog ops Q (o :: rest) a W := by
 obtain ⟨i0, hi, hz0, hz1, hz2⟩ := info_parts info_u8
 refine wpList_plain hgd fun K hK => wp_append_src2 s x 24 ho B 5 i0 (.int .u8 0) 1 Try.underlying24 hi hz0 hz1 hz2 rfl v zs.length (zs.map encB) hs hown u ys.length (ys.map encB) hx hz.src (by unfold maxLen; omega) (by omega) hB fun v' w' h1 h2 h3 => hK _ _ (h v' w' ?_ (Spare.of_grown h2) h3)
 rw [List.length_append, List.map_append]
 exact h1
theorem nodeP_hold {t : TreeV} {kz z1 z2 : List Int} {w : World} (h : TreeOk t kz z1 z2 w) {row at_ : Nat} (hr : row ≤ 255) (ha : at_ < 281474976710656) (la rt : Bool) (ds : List Int) (dv bv kv : Value) (W : World)
  (ho : Hold W bv (t.blk z1 z2 row at_)) (hk : Hold W kv (keyL row kz)) (hd : Hold W dv ds) (hl : ds.length ≤ 1073741824) :
  Calls Try.prog 25 #[.agg #[.int .i64 t.k, bv, kv, .bool la, .int .i64 (t.outN rt), dv]] W fun e w' => ∃ u, e = .returned (.tuple #[u, .int .i64 0]) ∧ OwnB W.heap.size w' u (t.node kz z1 z2 row at_ la rt ds) ∧ Below W.heap.size W w' := by
 obtain ⟨h1, h2, h3, h4⟩ := h.okD hr ha
 rw [← TreeV.kB_big h.v]
 refine (nodeCall_any t.big _ _ ds la _ bv kv dv W ho hk hd (by omega) h1 h2 (h4 rt)).mono ?_
 rintro e w' ⟨⟨u, rfl, hu⟩, hb⟩
 exact ⟨u, rfl, ⟨TreeV.node_bounds t kz z1 z2 row at_ la rt ds, hu⟩, hb⟩
theorem TreeV.lvl_map (t : TreeV) (kz z1 z2 zs : List Int) (r : Nat) : (t.callsR kz z1 z2 zs r).map t.outC = t.lvlZ kz z1 z2 (t.leafZ kz z1 z2 zs) r := by
 rw [TreeV.lvl_is]
 unfold TreeV.callsR TreeV.rowC TreeV.rowZ
 rw [List.map_map]
 rfl
theorem nodes_facts {t : TreeV} {kz z1 z2 : List Int} {w : World} (h : TreeOk t kz z1 z2 w) (zs : List Int) (hn : zs.length ≤ 4194304) : ∃ (AC : List (List CallS)) (DD : Nat → List (List Int)),
  t.calZ kz z1 z2 zs = AC.flatten ∧ t.rowsZ kz z1 z2 zs = AC.map (·.map t.outC) ∧ 2 ≤ AC.length ∧ AC.length ≤ 256 ∧
  (∀ r, r < AC.length → (AC.getD r []).length = (DD r).length ∧ (AC.getD r []).length ≤ 8388608 ∧ (DD r).flatten.length ≤ 1073741824 ∧ ((AC.getD r []).map t.outC).flatten.length ≤ 1073741824 ∧ ∀ k, k < (DD r).length → ∀ s, (AC.getD r []).getD k .zero = s → s.ds = nthL (DD r) k ∧ ∀ (W : World) (bv kv dv : Value), Hold W bv s.bs → Hold W kv s.kz → Hold W dv s.ds →
   Calls Try.prog 25 #[.agg #[.int .i64 s.k, bv, kv, .bool s.la, .int .i64 s.o, dv]] W fun e w' => ∃ u, e = .returned (.tuple #[u, .int .i64 0]) ∧ OwnB W.heap.size w' u (t.outC s) ∧ Below W.heap.size W w') ∧
  (DD 0).flatten = zs ∧ (∀ r, r + 1 < AC.length → (DD (r + 1)).flatten = ((AC.getD r []).map t.outC).flatten) ∧ (AC.getD (AC.length - 1) []).map t.outC = [t.digZ kz z1 z2 zs] := by
 have he := err_small h.v hn
 have hR := TreeV.rows_is he
 have hpn : t.pn ≤ 255 := by have := (TreeV.valid_facts h.v).2.2.2.2.2.2.2.1; unfold TreeV.pn; omega
 have hlen := hR.len
 have hmost := hR.most
 have hL := TreeV.leafZ_facts h.v h.l kz z1 z2 zs
 have hln : 1 ≤ t.ln := by
  have := (TreeV.valid_facts h.v).2.2.2.2.2.2.2.2.1
  have := h.l
  unfold TreeV.ln; omega
 have hat : ∀ r, r < (t.rowsOf zs.length).length - 1 + 1 → (t.allC kz z1 z2 zs ((t.rowsOf zs.length).length - 1 + 1)).getD r [] = t.callsR kz z1 z2 zs r := fun r hr => TreeV.allC_at t kz z1 z2 zs hr
 have hfl : ∀ r, (t.lvlZ kz z1 z2 (t.leafZ kz z1 z2 zs) r).flatten.length ≤ 1073741824 := fun r => by
  have hF := TreeV.lvlZ_facts h.v kz z1 z2 hL.1 hL.2.2 r
  have := flatten_len64 hF.2.2
  have := hL.2.1
  have := hF.2.1
  omega
 have hdd : ∀ r, (t.dataR kz z1 z2 zs (r + 1)).flatten = (t.lvlZ kz z1 z2 (t.leafZ kz z1 z2 zs) r).flatten := fun r => TreeV.up_flat h.v (r + 1) _
 have hd0 : (t.dataR kz z1 z2 zs 0).flatten = zs := cut_flat hln zs
 refine ⟨t.allC kz z1 z2 zs ((t.rowsOf zs.length).length - 1 + 1), t.dataR kz z1 z2 zs, by unfold TreeV.calZ; rw [if_pos h.v], by unfold TreeV.rowsZ; rw [if_pos h.v], by rw [TreeV.allC_length]; omega, by rw [TreeV.allC_length]; omega, fun r hr => ?_, hd0, fun r hr => ?_, ?_⟩
 ·rw [TreeV.allC_length] at hr
  rw [hat r hr, TreeV.lvl_map]
  have hdf := TreeV.dataR_facts h.v h.l kz z1 z2 zs r
  have hcl : (t.callsR kz z1 z2 zs r).length = (t.dataR kz z1 z2 zs r).length := by unfold TreeV.callsR; rw [TreeV.rowC_length]
  refine ⟨hcl, by omega, ?_, hfl r, fun k hk s hs => ?_⟩
  ·cases r with
   | zero => rw [hd0]; omega
   | succ r => rw [hdd r]; exact hfl r
  ·rw [TreeV.callsR_at t kz z1 z2 zs hk] at hs
   subst hs
   exact ⟨rfl, fun W bv kv dv p1 p2 p3 => nodeP_hold h (by omega) (by omega) _ _ _ dv bv kv W p1 p2 p3 (by have := hdf.2.2 k; show (nthL _ _).length ≤ _; omega)⟩
 ·rw [TreeV.allC_length] at hr
  rw [hat r (by omega), TreeV.lvl_map]
  exact hdd r
 ·rw [TreeV.allC_length, Nat.add_sub_cancel, hat _ (by omega), TreeV.lvl_map]
  have hT := top_rows he kz z1 z2 (leafZ_rows h.v h.l kz z1 z2 zs) hL.2.2
  have h1 := (TreeV.top_len h.v kz z1 z2 hT).1
  obtain ⟨a, ha⟩ := List.length_eq_one_iff.1 h1
  unfold TreeV.digZ
  rw [if_pos h.v, ha]
  rfl
end Go.Proofs.Ytchepcilkcdemaa
namespace Go.Proofs.Ytchepcilkcdemaa
open Go.ChangeShapes Go.WideShapes Go.ChangeAt Go.RowKit Go.Joins Go.Shelf Go.Maps
open Go.Lib (hid)
theorem nthL_get {L M : List (List Int)} (hl : L.length = M.length) {i : Nat} (h : nthL L i = nthL M i) : L[i]? = M[i]? := by
 by_cases hi : i < L.length
 ·unfold nthL at h
  rw [List.getD_eq_getElem?_getD, List.getD_eq_getElem?_getD, List.getElem?_eq_getElem hi, List.getElem?_eq_getElem (by omega)] at h
  rw [List.getElem?_eq_getElem hi, List.getElem?_eq_getElem (by omega)]
  exact congrArg some h
 ·rw [List.getElem?_eq_none (by omega), List.getElem?_eq_none (by omega)]
theorem cut_nth {n : Nat} (hn : 1 ≤ n) {zs : List Int} (hz : zs ≠ []) (k : Nat) : nthL (cutZ n zs) k = (zs.drop (k * n)).take n := by
 unfold cutZ
 rw [if_neg hz]
 by_cases hk : k < cdiv zs.length n
 ·simp [nthL, pieces, piece, List.getD_eq_getElem?_getD, hk]
 ·have h2 := mt (lt_cdiv (n := zs.length) (d := n) (j := k) hn).2 hk
  rw [List.drop_eq_nil_of_le (by omega)]
  unfold nthL
  rw [List.getD_eq_getElem?_getD, List.getElem?_eq_none (by rw [pieces_length]; omega)]
  simp
theorem piece_set {n a k : Nat} (hn : 1 ≤ n) (zs : List Int) (z : Int) (hk : k ≠ a / n) : ((zs.set a z).drop (k * n)).take n = (zs.drop (k * n)).take n := by
 refine List.ext_getElem? fun j => ?_
 rw [List.getElem?_take, List.getElem?_take]
 split
 ·rename_i hj
  rw [List.getElem?_drop, List.getElem?_drop, List.getElem?_set_ne]
  rintro rfl
  refine hk ?_
  rw [Nat.mul_comm, Nat.mul_add_div (by omega), Nat.div_eq_of_lt hj]
  omega
 ·rfl
theorem piece_ne {n a : Nat} (hn : 1 ≤ n) {zs : List Int} {z : Int} (ha : a < zs.length) (hz : z ≠ zs[a]) : ((zs.set a z).drop (a / n * n)).take n ≠ (zs.drop (a / n * n)).take n := by
 intro e
 have h := congrArg (fun l : List Int => l[a % n]?) e
 simp only [List.getElem?_take, List.getElem?_drop] at h
 have h1 : a / n * n + a % n = a := by have := Nat.div_add_mod a n; rw [Nat.mul_comm]; exact this
 have h2 : a % n < n := Nat.mod_lt _ (by omega)
 rw [h1, if_pos h2, if_pos h2, List.getElem?_set_self ha, List.getElem?_eq_getElem ha] at h
 exact hz (Option.some.inj h)
theorem flats_nth (f : Nat) (L : List (List Int)) {m k : Nat} (h : k < m) : nthL (flats f L m) k = (piece f L k).flatten := by simp [nthL, flats, List.getD_eq_getElem?_getD, h]
/-- The touched node of a row. -/
def placeZ (f n rows a : Nat) : Nat → Nat
 | 0 => a / n
 | i + 1 => if f = 0 ∨ rows ≤ i + 2 then 0 else placeZ f n rows a i / f
/-- All but the touched node hash the same. -/
theorem TreeV.touch {t : TreeV} (h : t.validE = 0) (hl : 0 ≤ t.l ∧ t.l ≤ 4294967295) (kz z1 z2 zs : List Int) (hn : zs.length ≤ 4194304) {a : Nat} (ha : a < zs.length) (z : Int) : ∀ r, r < (t.rowsOf zs.length).length →
  (t.dataR kz z1 z2 (zs.set a z) r).length = (t.dataR kz z1 z2 zs r).length ∧ t.rtR kz z1 z2 (zs.set a z) r = t.rtR kz z1 z2 zs r ∧ ∀ k, k ≠ placeZ t.fn t.ln (t.rowsOf zs.length).length a r → nthL (t.dataR kz z1 z2 (zs.set a z) r) k = nthL (t.dataR kz z1 z2 zs r) k := by
 have he := err_small h hn
 have hR := TreeV.rows_is he
 have hL := TreeV.leafZ_facts h hl kz z1 z2 zs
 have hT := top_rows he kz z1 z2 (leafZ_rows h hl kz z1 z2 zs) hL.2.2
 have hln : 1 ≤ t.ln := by
  have := (TreeV.valid_facts h).2.2.2.2.2.2.2.2.1
  unfold TreeV.ln; omega
 have hz : zs ≠ [] := fun e => by rw [e] at ha; simp at ha
 intro r
 induction r with
 | zero =>
  intro _
  refine ⟨?_, rfl, fun k hk => ?_⟩
  ·show (cutZ t.ln (zs.set a z)).length = (cutZ t.ln zs).length
   rw [cutZ_length _ hln, cutZ_length _ hln, List.length_set]
  ·show nthL (cutZ t.ln (zs.set a z)) k = nthL (cutZ t.ln zs) k
   rw [cut_nth hln hz, cut_nth hln (by intro e; exact hz (List.eq_nil_of_length_eq_zero (by have := congrArg List.length e; simpa using this)))]
   exact piece_set hln zs z hk
 | succ r ih =>
  intro hr
  obtain ⟨i1, i2, i3⟩ := ih (by omega)
  have hlv : (t.lvlZ kz z1 z2 (t.leafZ kz z1 z2 (zs.set a z)) r).length = (t.lvlZ kz z1 z2 (t.leafZ kz z1 z2 zs) r).length := by
   rw [TreeV.lvl_is, TreeV.lvl_is, TreeV.rowZ_length, TreeV.rowZ_length, i1]
  have hno : ∀ k, k ≠ placeZ t.fn t.ln (t.rowsOf zs.length).length a r → (t.lvlZ kz z1 z2 (t.leafZ kz z1 z2 (zs.set a z)) r)[k]? = (t.lvlZ kz z1 z2 (t.leafZ kz z1 z2 zs) r)[k]? := fun k hk => by
   refine nthL_get hlv ?_
   by_cases hk2 : k < (t.dataR kz z1 z2 zs r).length
   ·rw [TreeV.lvl_is, TreeV.lvl_is, TreeV.rowZ_nth _ _ _ _ _ _ _ (by omega), TreeV.rowZ_nth _ _ _ _ _ _ _ hk2, i1, i2, i3 k hk]
   ·have e1 : (t.lvlZ kz z1 z2 (t.leafZ kz z1 z2 zs) r).length = (t.dataR kz z1 z2 zs r).length := by rw [TreeV.lvl_is, TreeV.rowZ_length]
    unfold nthL
    rw [List.getD_eq_getElem?_getD, List.getD_eq_getElem?_getD, List.getElem?_eq_none (by omega), List.getElem?_eq_none (by omega)]
  have hrt : t.rtR kz z1 z2 (zs.set a z) (r + 1) = t.rtR kz z1 z2 zs (r + 1) := by
   show t.rootZ _ _ = t.rootZ _ _
   rw [hlv]
  refine ⟨?_, hrt, fun k hk => ?_⟩
  ·show (t.upZ _ _).length = (t.upZ _ _).length
   unfold TreeV.upZ
   rw [hlv]
   split
   ·rw [List.length_singleton, List.length_singleton]
   ·rw [flats_length, flats_length]
  ·show nthL (t.upZ _ _) k = nthL (t.upZ _ _) k
   unfold TreeV.upZ
   rw [hlv]
   by_cases hq : t.rootZ (r + 1) (t.lvlZ kz z1 z2 (t.leafZ kz z1 z2 zs) r).length = true
   ·rw [if_pos hq, if_pos hq]
    have htop : (t.rowsOf zs.length).length ≤ r + 2 := by
     refine Nat.le_of_not_lt fun h2 => ?_
     have := hT.2.2 (r + 1) (by omega) (by omega)
     rw [Nat.add_sub_cancel, hq] at this
     cases this
    have hk0 : k ≠ 0 := by
     unfold placeZ at hk
     rw [if_pos (.inr htop)] at hk
     exact hk
    unfold nthL
    rw [List.getD_eq_getElem?_getD, List.getD_eq_getElem?_getD, List.getElem?_eq_none (by simp; omega), List.getElem?_eq_none (by simp; omega)]
   ·rw [if_neg hq, if_neg hq]
    have hqf : t.rootZ (r + 1) (t.lvlZ kz z1 z2 (t.leafZ kz z1 z2 zs) r).length = false := by simpa using hq
    have hfn := TreeV.fn_pos h hqf
    have hnt : ¬ (t.rowsOf zs.length).length ≤ r + 2 := fun h2 => by
     have := hT.2.1
     rw [show (t.rowsOf zs.length).length - 1 = r + 1 by omega, Nat.add_sub_cancel] at this
     exact hq this
    unfold placeZ at hk
    rw [if_neg (by omega)] at hk
    by_cases hkc : k < cdiv (t.lvlZ kz z1 z2 (t.leafZ kz z1 z2 zs) r).length t.fn
    ·rw [flats_nth _ _ hkc, flats_nth _ _ hkc]
     congr 1
     refine List.ext_getElem? fun j => ?_
     unfold piece
     rw [List.getElem?_take, List.getElem?_take]
     split
     ·rename_i hj
      rw [List.getElem?_drop, List.getElem?_drop]
      refine hno _ fun e => hk ?_
      rw [← e, Nat.mul_comm, Nat.mul_add_div (by omega), Nat.div_eq_of_lt hj]
      omega
     ·rfl
    ·unfold nthL
     rw [List.getD_eq_getElem?_getD, List.getD_eq_getElem?_getD, List.getElem?_eq_none (by rw [flats_length]; omega), List.getElem?_eq_none (by rw [flats_length]; omega)]
attribute [local irreducible] TreeV.node
/-- How many nodes of a row are settled, where s leaves are. -/
def TreeV.cntS (t : TreeV) (s : Nat) : Nat → Nat
 | 0 => s
 | r + 1 => if t.fn = 0 ∨ t.pn ≤ r + 2 then 0 else t.cntS s r / t.fn
/-- What the settled nodes of a row give, where the settled leaves give A. -/
def TreeV.setL (t : TreeV) (kz z1 z2 : List Int) (A : List (List Int)) : Nat → List (List Int)
 | 0 => A
 | r + 1 => (List.range (t.cntS A.length (r + 1))).map fun i => t.node kz z1 z2 (r + 1) i false false (piece t.fn (t.setL kz z1 z2 A r) i).flatten
theorem TreeV.setL_length (t : TreeV) (kz z1 z2 : List Int) (A : List (List Int)) (r : Nat) : (t.setL kz z1 z2 A r).length = t.cntS A.length r := by
 cases r with
 | zero => rfl
 | succ r => unfold TreeV.setL; rw [List.length_map, List.length_range]
/-- What waits in a row for a node above it. -/
def TreeV.openL (t : TreeV) (kz z1 z2 : List Int) (A : List (List Int)) (r : Nat) : List (List Int) := (t.setL kz z1 z2 A r).drop (t.cntS A.length (r + 1) * t.fn)
/-- The last node's data and output, row by row; h: what no leaf that is settled holds. -/
def TreeV.endO (t : TreeV) (kz z1 z2 : List Int) (A : List (List Int)) (h : List Int) : Nat → List Int
 | 0 => t.node kz z1 z2 0 A.length true false h
 | r + 1 => t.node kz z1 z2 (r + 1) (t.cntS A.length (r + 1)) true (t.rootZ (r + 1) (t.cntS A.length r + 1)) ((t.openL kz z1 z2 A r).flatten ++ t.endO kz z1 z2 A h r)
/-- How many leaves are settled when so many bytes were taken. -/
def TreeV.setN (t : TreeV) (n : Nat) : Nat := if n = 0 then 0 else (n - 1) / t.ln
/-- What they give. -/
def TreeV.setA (t : TreeV) (kz z1 z2 zs : List Int) : List (List Int) := (List.range (t.setN zs.length)).map fun i => t.node kz z1 z2 0 i false false (piece t.ln zs i)
theorem TreeV.setA_length (t : TreeV) (kz z1 z2 zs : List Int) : (t.setA kz z1 z2 zs).length = t.setN zs.length := by simp [TreeV.setA]
theorem cdiv_succ {n d : Nat} (hd : 1 ≤ d) (hn : 1 ≤ n) : cdiv n d = (n - 1) / d + 1 := by
 have h1 := lt_cdiv (n := n) (d := d) (j := (n - 1) / d) hd
 have h2 := lt_cdiv (n := n) (d := d) (j := (n - 1) / d + 1) hd
 have h3 := Nat.div_mul_le_self (n - 1) d
 have h4 := Nat.lt_div_mul_add (a := n - 1) (b := d) (by omega)
 have h5 : ((n - 1) / d + 1) * d = (n - 1) / d * d + d := by rw [Nat.add_mul, Nat.one_mul]
 have h6 : (n - 1) / d < cdiv n d := h1.2 (by omega)
 have h7 : ¬ ((n - 1) / d + 1 < cdiv n d) := fun h => by have := h2.1 h; omega
 omega
theorem map_range_snoc {α : Type} (f : Nat → α) (m : Nat) : (List.range (m + 1)).map f = (List.range m).map f ++ [f m] := by simp [List.range_succ]
theorem map_range_congr {α : Type} {f g : Nat → α} {m : Nat} (h : ∀ i, i < m → f i = g i) : (List.range m).map f = (List.range m).map g := by
 refine List.map_congr_left fun i hi => h i (List.mem_range.1 hi)
theorem rowZ_ends {t : TreeV} {kz z1 z2 : List Int} {row : Nat} {rt : Bool} {L : List (List Int)} {m : Nat} (hm : L.length = m + 1) : t.rowZ kz z1 z2 row rt L L.length = ((List.range m).map fun i => t.node kz z1 z2 row i false rt (nthL L i)) ++ [t.node kz z1 z2 row m true rt (nthL L m)] := by
 unfold TreeV.rowZ
 rw [hm, map_range_snoc]
 congr 1
 ·refine map_range_congr fun i hi => ?_
  rw [decide_eq_false (by omega)]
 ·rw [decide_eq_true rfl]
theorem TreeV.lvl_zero {t : TreeV} (h : t.validE = 0) (hl : 0 ≤ t.l ∧ t.l ≤ 4294967295) (kz z1 z2 zs : List Int) : t.leafZ kz z1 z2 zs = t.setA kz z1 z2 zs ++ [t.endO kz z1 z2 (t.setA kz z1 z2 zs) (zs.drop (t.setN zs.length * t.ln)) 0] := by
 have hln : 1 ≤ t.ln := by
  have := (TreeV.valid_facts h).2.2.2.2.2.2.2.2.1
  unfold TreeV.ln; omega
 have hlen : (cutZ t.ln zs).length = t.setN zs.length + 1 := by
  rw [cutZ_length zs hln]
  unfold TreeV.setN lvs
  by_cases hz : zs.length = 0
  ·rw [if_pos hz, hz]; simp [cdiv]
  ·rw [if_neg hz]
   have h2 := cdiv_succ hln (show 1 ≤ zs.length by omega)
   rw [h2]
   exact Nat.max_eq_right (Nat.le_add_left 1 _)
 unfold TreeV.leafZ
 rw [rowZ_ends hlen]
 by_cases hz : zs = []
 ·subst hz
  have e : t.setN ([] : List Int).length = 0 := by unfold TreeV.setN; rfl
  have ea : t.setA kz z1 z2 [] = [] := by unfold TreeV.setA; rw [e]; rfl
  rw [e, ea]
  unfold TreeV.endO
  rw [show nthL (cutZ t.ln []) 0 = [] from by simp [cutZ, nthL], Nat.zero_mul, List.drop_zero]
  rfl
 ·congr 1
  ·unfold TreeV.setA
   refine map_range_congr fun i hi => ?_
   rw [cut_nth hln hz]
   rfl
  ·unfold TreeV.endO
   rw [TreeV.setA_length, cut_nth hln hz]
   congr 2
   refine List.take_of_length_le ?_
   rw [List.length_drop]
   have hz0 : zs.length ≠ 0 := fun e => hz (List.eq_nil_of_length_eq_zero e)
   unfold TreeV.setN
   rw [if_neg hz0]
   have h4 := Nat.lt_div_mul_add (a := zs.length - 1) (b := t.ln) (by omega)
   omega
/-- A row of the definition: what is settled, and one node more. -/
theorem TreeV.lvl_ends {t : TreeV} (h : t.validE = 0) (kz z1 z2 : List Int) (A : List (List Int)) (hd : List Int) {R : Nat} (hR : t.topAt kz z1 z2 (A ++ [t.endO kz z1 z2 A hd 0]) R) : ∀ r, r ≤ R → t.lvlZ kz z1 z2 (A ++ [t.endO kz z1 z2 A hd 0]) r = t.setL kz z1 z2 A r ++ [t.endO kz z1 z2 A hd r]
 | 0, _ => rfl
 | r + 1, hr => by
  have ih := TreeV.lvl_ends h kz z1 z2 A hd hR r (by omega)
  have hpn2 : (t.pn : Int) = t.p ∧ 2 ≤ t.p := by
   have := (TreeV.valid_facts h).2.2.2.2.2.2.1
   unfold TreeV.pn
   omega
  have hlen : (t.lvlZ kz z1 z2 (A ++ [t.endO kz z1 z2 A hd 0]) r).length = t.cntS A.length r + 1 := by
   rw [ih, List.length_append, TreeV.setL_length]; rfl
  show t.rowZ _ _ _ _ (t.rootZ (r + 1) (t.lvlZ _ _ _ _ r).length) (t.upZ (r + 1) (t.lvlZ _ _ _ _ r)) (t.upZ (r + 1) (t.lvlZ _ _ _ _ r)).length = _
  rw [hlen]
  by_cases hq : t.rootZ (r + 1) (t.cntS A.length r + 1) = true
  ·have hc : t.cntS A.length (r + 1) = 0 := by
    unfold TreeV.cntS
    split
    ·rfl
    ·rename_i hn
     have hq2 := of_decide_eq_true hq
     refine Nat.div_eq_of_lt ?_
     have h1 : t.fn ≠ 0 := fun e => hn (.inl e)
     have h2 : ¬ t.pn ≤ r + 2 := fun e => hn (.inr e)
     rcases hq2 with h3 | h3 | h3
     ·exact absurd (by unfold TreeV.fn; rw [h3]; rfl) h1
     ·exfalso; omega
     ·unfold TreeV.fn; unfold TreeV.fn at h1; omega
   have hu : t.upZ (r + 1) (t.lvlZ kz z1 z2 (A ++ [t.endO kz z1 z2 A hd 0]) r) = [(t.lvlZ kz z1 z2 (A ++ [t.endO kz z1 z2 A hd 0]) r).flatten] := by
    unfold TreeV.upZ
    rw [hlen, if_pos hq]
   rw [hu, rowZ_ends (m := 0) (List.length_singleton), ih]
   unfold TreeV.setL
   rw [hc]
   show [] ++ [_] = [] ++ [_]
   unfold TreeV.endO TreeV.openL
   rw [hc, Nat.zero_mul, List.drop_zero, hq]
   congr 2
   unfold nthL
   rw [List.getD_eq_getElem?_getD, List.getElem?_cons_zero, Option.getD_some, List.flatten_append, List.flatten_singleton]
   cases r <;> rfl
  ·have hqf : t.rootZ (r + 1) (t.cntS A.length r + 1) = false := by simpa using hq
   have hfn := TreeV.fn_pos h hqf
   have hnp : ¬ (t.fn = 0 ∨ t.pn ≤ r + 2) := by
    rintro (e | e)
    ·omega
    ·have hq2 := of_decide_eq_false hqf
     by_cases e2 : t.pn = r + 2
     ·exact hq2 (.inr (.inl (by omega)))
     ·have h1 := hR.2.2 (t.pn - 1) (by omega) (by omega)
      rw [TreeV.rootZ_last (by omega)] at h1
      cases h1
   have hc : t.cntS A.length (r + 1) = t.cntS A.length r / t.fn := by
    show (if _ then _ else _) = _
    rw [if_neg hnp]
   have hcd : cdiv (t.cntS A.length r + 1) t.fn = t.cntS A.length (r + 1) + 1 := by rw [cdiv_succ (by omega) (by omega), hc, Nat.add_sub_cancel]
   have hu : t.upZ (r + 1) (t.lvlZ kz z1 z2 (A ++ [t.endO kz z1 z2 A hd 0]) r) = flats t.fn (t.lvlZ kz z1 z2 (A ++ [t.endO kz z1 z2 A hd 0]) r) (t.cntS A.length (r + 1) + 1) := by
    unfold TreeV.upZ
    rw [hlen, if_neg hq, hcd]
   rw [hu, rowZ_ends (m := t.cntS A.length (r + 1)) (flats_length ..), hqf]
   have hmul := Nat.div_mul_le_self (t.cntS A.length r) t.fn
   rw [← hc] at hmul
   congr 1
   ·unfold TreeV.setL
    refine map_range_congr fun i hi => ?_
    rw [flats_nth _ _ (by omega), ih]
    congr 2
    unfold piece
    have hi2 : (i + 1) * t.fn ≤ t.cntS A.length (r + 1) * t.fn := Nat.mul_le_mul_right _ (by omega)
    rw [Nat.add_mul, Nat.one_mul] at hi2
    rw [List.drop_append_of_le_length (by rw [TreeV.setL_length]; omega), List.take_append_of_le_length (by rw [List.length_drop, TreeV.setL_length]; omega)]
   ·congr 1
    show _ = t.node kz z1 z2 (r + 1) (t.cntS A.length (r + 1)) true (t.rootZ (r + 1) (t.cntS A.length r + 1)) ((t.openL kz z1 z2 A r).flatten ++ t.endO kz z1 z2 A hd r)
    rw [hqf]
    congr 1
    rw [flats_nth _ _ (by omega), ih]
    unfold piece TreeV.openL
    have h8 := Nat.lt_div_mul_add (a := t.cntS A.length r) (b := t.fn) (by omega)
    rw [← hc] at h8
    rw [List.drop_append_of_le_length (by rw [TreeV.setL_length]; exact hmul), List.take_of_length_le (by rw [List.length_append, List.length_drop, TreeV.setL_length, List.length_singleton]; omega), List.flatten_append, List.flatten_singleton]
end Go.Proofs.Ytchepcilkcdemaa
namespace Go.Proofs.Ytchepcilkcdemaa
open Go.ChangeShapes Go.WideShapes Go.ChangeAt Go.RowKit Go.Joins Go.Shelf Go.Maps
open Go.Lib (hid)
attribute [local irreducible] TreeV.node
/-- Does one more settled leaf settle a node of this row, too? -/
def TreeV.carry (t : TreeV) (s : Nat) : Nat → Bool
 | 0 => true
 | r + 1 => t.carry s r && decide (t.fn ≠ 0 ∧ r + 2 < t.pn ∧ (t.cntS s r + 1) % t.fn = 0)
theorem TreeV.cntS_next (t : TreeV) (s r : Nat) : t.cntS s (r + 1) = if t.fn = 0 ∨ t.pn ≤ r + 2 then 0 else t.cntS s r / t.fn := rfl
theorem TreeV.cntS_succ (t : TreeV) (s : Nat) : ∀ r, t.cntS (s + 1) r = t.cntS s r + (if t.carry s r = true then 1 else 0)
 | 0 => by unfold TreeV.cntS TreeV.carry; simp
 | r + 1 => by
  have ih := TreeV.cntS_succ t s r
  rw [TreeV.cntS_next, TreeV.cntS_next]
  by_cases hc : t.fn = 0 ∨ t.pn ≤ r + 2
  ·have hf : t.carry s (r + 1) = false := by
    unfold TreeV.carry
    rw [decide_eq_false (by omega), Bool.and_false]
   rw [if_pos hc, if_pos hc, hf]; simp
  ·rw [if_neg hc, if_neg hc, ih, show t.carry s (r + 1) = (t.carry s r && decide (t.fn ≠ 0 ∧ r + 2 < t.pn ∧ (t.cntS s r + 1) % t.fn = 0)) from rfl]
   by_cases h1 : t.carry s r = true
   ·rw [if_pos h1, h1, Bool.true_and, Nat.succ_div]
    congr 1
    by_cases h2 : (t.cntS s r + 1) % t.fn = 0
    ·rw [if_pos (Nat.dvd_of_mod_eq_zero h2), if_pos (decide_eq_true ⟨by omega, by omega, h2⟩)]
    ·rw [if_neg (fun e => h2 (Nat.mod_eq_zero_of_dvd e)), if_neg (fun e => h2 (of_decide_eq_true e).2.2)]
   ·have h3 : t.carry s r = false := by simpa using h1
    rw [if_neg h1, h3, Bool.false_and]; simp
/-- What the node that is settled then gives. -/
def TreeV.outS (t : TreeV) (kz z1 z2 : List Int) (A : List (List Int)) (a : List Int) : Nat → List Int
 | 0 => a
 | r + 1 => t.node kz z1 z2 (r + 1) (t.cntS A.length (r + 1)) false false (t.openL kz z1 z2 A r ++ [t.outS kz z1 z2 A a r]).flatten
theorem TreeV.open_len (t : TreeV) (kz z1 z2 : List Int) (A : List (List Int)) (r : Nat) : (t.openL kz z1 z2 A r).length = t.cntS A.length r - t.cntS A.length (r + 1) * t.fn := by unfold TreeV.openL; rw [List.length_drop, TreeV.setL_length]
theorem TreeV.cnt_mul (t : TreeV) (s r : Nat) : t.cntS s (r + 1) * t.fn ≤ t.cntS s r := by
 rw [TreeV.cntS_next]
 split
 ·omega
 ·exact Nat.div_mul_le_self _ _
/-- As many wait as make up a node: just then it is settled. -/
theorem TreeV.carry_next {t : TreeV} (kz z1 z2 : List Int) (A : List (List Int)) {r : Nat} (h : t.carry A.length r = true) : t.carry A.length (r + 1) = true ↔ t.fn ≠ 0 ∧ r + 2 < t.pn ∧ t.fn ≤ (t.openL kz z1 z2 A r).length + 1 := by
 have e : t.carry A.length (r + 1) = decide (t.fn ≠ 0 ∧ r + 2 < t.pn ∧ (t.cntS A.length r + 1) % t.fn = 0) := by
  show (t.carry A.length r && _) = _
  rw [h, Bool.true_and]
 rw [e, decide_eq_true_iff, TreeV.open_len]
 refine ⟨fun ⟨h1, h2, h3⟩ => ⟨h1, h2, ?_⟩, fun ⟨h1, h2, h3⟩ => ⟨h1, h2, ?_⟩⟩
 ·rw [TreeV.cntS_next, if_neg (by omega)]
  have h4 := Nat.div_add_mod (t.cntS A.length r) t.fn
  have h5 := Nat.mod_lt (t.cntS A.length r) (show 0 < t.fn by omega)
  rw [Nat.mul_comm] at h4
  have h6 : (t.cntS A.length r % t.fn + 1) % t.fn = 0 := by rw [Nat.mod_add_mod]; exact h3
  by_cases h7 : t.cntS A.length r % t.fn + 1 < t.fn
  ·rw [Nat.mod_eq_of_lt h7] at h6; omega
  ·omega
 ·rw [TreeV.cntS_next, if_neg (by omega)] at h3
  have h4 := Nat.div_add_mod (t.cntS A.length r) t.fn
  have h5 := Nat.mod_lt (t.cntS A.length r) (show 0 < t.fn by omega)
  rw [Nat.mul_comm] at h4
  have h6 : t.cntS A.length r % t.fn + 1 = t.fn := by omega
  rw [← Nat.mod_add_mod, h6, Nat.mod_self]
/-- Then all that waited, and the new one, are just enough. -/
theorem TreeV.carry_len {t : TreeV} (kz z1 z2 : List Int) (A : List (List Int)) {r : Nat} (h : t.carry A.length r = true) (h2 : t.carry A.length (r + 1) = true) : (t.openL kz z1 z2 A r).length + 1 = t.fn := by
 obtain ⟨h3, h4, h5⟩ := (TreeV.carry_next kz z1 z2 A h).1 h2
 have h6 := Nat.mod_lt (t.cntS A.length r) (show 0 < t.fn by omega)
 have h7 := Nat.div_add_mod (t.cntS A.length r) t.fn
 rw [Nat.mul_comm] at h7
 rw [TreeV.open_len, TreeV.cntS_next, if_neg (by omega)] at h5 ⊢
 omega
theorem TreeV.carry_down {t : TreeV} {s r : Nat} (h : t.carry s (r + 1) = true) : t.carry s r = true := by
 unfold TreeV.carry at h
 rw [Bool.and_eq_true] at h
 exact h.1
/-- One more settled leaf. -/
theorem TreeV.setL_snoc (t : TreeV) (kz z1 z2 : List Int) (A : List (List Int)) (a : List Int) : ∀ r, t.setL kz z1 z2 (A ++ [a]) r = t.setL kz z1 z2 A r ++ (if t.carry A.length r = true then [t.outS kz z1 z2 A a r] else [])
 | 0 => rfl
 | r + 1 => by
  have ih := TreeV.setL_snoc t kz z1 z2 A a r
  have hm := TreeV.cnt_mul t A.length r
  have hpre : ∀ i, i < t.cntS A.length (r + 1) → piece t.fn (t.setL kz z1 z2 (A ++ [a]) r) i = piece t.fn (t.setL kz z1 z2 A r) i := fun i hi => by
   have hi2 : (i + 1) * t.fn ≤ t.cntS A.length (r + 1) * t.fn := Nat.mul_le_mul_right _ (by omega)
   rw [Nat.add_mul, Nat.one_mul] at hi2
   rw [ih]
   unfold piece
   rw [List.drop_append_of_le_length (by rw [TreeV.setL_length]; omega), List.take_append_of_le_length (by rw [List.length_drop, TreeV.setL_length]; omega)]
  have hlen : (A ++ [a]).length = A.length + 1 := by simp
  show (List.range (t.cntS (A ++ [a]).length (r + 1))).map _ = (List.range (t.cntS A.length (r + 1))).map _ ++ _
  rw [hlen, TreeV.cntS_succ]
  by_cases hc : t.carry A.length (r + 1) = true
  ·rw [if_pos hc, if_pos hc, map_range_snoc]
   congr 1
   ·exact map_range_congr fun i hi => by rw [hpre i hi]
   ·congr 1
    show t.node kz z1 z2 (r + 1) (t.cntS A.length (r + 1)) false false _ = t.node kz z1 z2 (r + 1) (t.cntS A.length (r + 1)) false false _
    congr 2
    rw [ih, if_pos (TreeV.carry_down hc)]
    unfold piece TreeV.openL
    have h9 := TreeV.carry_len kz z1 z2 A (TreeV.carry_down hc) hc
    rw [TreeV.open_len] at h9
    rw [List.drop_append_of_le_length (by rw [TreeV.setL_length]; exact hm), List.take_of_length_le (by rw [List.length_append, List.length_drop, TreeV.setL_length, List.length_singleton]; omega)]
  ·rw [if_neg hc, if_neg hc, Nat.add_zero, List.append_nil]
   exact map_range_congr fun i hi => by rw [hpre i hi]
theorem TreeV.openL_snoc (t : TreeV) (kz z1 z2 : List Int) (A : List (List Int)) (a : List Int) (r : Nat) : t.openL kz z1 z2 (A ++ [a]) r = if t.carry A.length (r + 1) = true then [] else if t.carry A.length r = true then t.openL kz z1 z2 A r ++ [t.outS kz z1 z2 A a r] else t.openL kz z1 z2 A r := by
 have hm := TreeV.cnt_mul t A.length r
 have hlen : (A ++ [a]).length = A.length + 1 := by simp
 by_cases hc : t.carry A.length (r + 1) = true
 ·rw [if_pos hc]
  have h9 := TreeV.carry_len kz z1 z2 A (TreeV.carry_down hc) hc
  rw [TreeV.open_len] at h9
  refine List.eq_nil_of_length_eq_zero ?_
  rw [TreeV.open_len, hlen, TreeV.cntS_succ, TreeV.cntS_succ, if_pos hc, if_pos (TreeV.carry_down hc), Nat.add_mul, Nat.one_mul]
  omega
 ·rw [if_neg hc]
  unfold TreeV.openL
  rw [hlen, TreeV.cntS_succ, if_neg hc, Nat.add_zero, TreeV.setL_snoc]
  split
  ·rw [List.drop_append_of_le_length (by rw [TreeV.setL_length]; exact hm)]
  ·rw [List.append_nil]
theorem TreeV.cntS_zero {t : TreeV} {s r : Nat} (h : t.cntS s r = 0) : t.cntS s (r + 1) = 0 := by
 rw [TreeV.cntS_next, h]
 split
 ·rfl
 ·exact Nat.zero_div _
theorem TreeV.openL_zero {t : TreeV} {kz z1 z2 : List Int} {A : List (List Int)} {r : Nat} (h : t.cntS A.length r = 0) : t.openL kz z1 z2 A r = [] := List.eq_nil_of_length_eq_zero (by rw [TreeV.open_len, h, Nat.zero_sub])
end Go.Proofs.Ytchepcilkcdemaa
namespace Go.Proofs.Ytchepcilkcdemaa
open Go.ChangeShapes Go.WideShapes Go.ChangeAt Go.RowKit Go.Joins Go.Shelf Go.Maps
open Go.Lib (hid)
attribute [local irreducible] TreeV.node
/-- Of the bytes zs the settled leaves give A, and h is held. -/
structure StrOf (t : TreeV) (kz z1 z2 zs : List Int) (A : List (List Int)) (h : List Int) : Prop where
 le : A.length * t.ln + h.length = zs.length
 hd : h = zs.drop (A.length * t.ln)
 out : A = (List.range A.length).map fun i => t.node kz z1 z2 0 i false false (piece t.ln zs i)
theorem StrOf.nil (t : TreeV) (kz z1 z2 : List Int) : StrOf t kz z1 z2 [] [] [] := ⟨by simp, by simp, rfl⟩
theorem StrOf.more {t : TreeV} {kz z1 z2 zs : List Int} {A : List (List Int)} {h : List Int} (s : StrOf t kz z1 z2 zs A h) (x : List Int) : StrOf t kz z1 z2 (zs ++ x) A (h ++ x) := by
 have h1 := s.le
 refine ⟨by rw [List.length_append, List.length_append]; omega, by rw [List.drop_append_of_le_length (by omega), ← s.hd], ?_⟩
 have h2 := s.out
 rw [map_range_congr (g := fun i => t.node kz z1 z2 0 i false false (piece t.ln zs i)) fun i hi => ?_]
 ·exact h2
 ·have hi2 : (i + 1) * t.ln ≤ A.length * t.ln := Nat.mul_le_mul_right _ (by omega)
  rw [Nat.add_mul, Nat.one_mul] at hi2
  have e : piece t.ln (zs ++ x) i = piece t.ln zs i := by
   unfold piece
   rw [List.drop_append_of_le_length (by omega), List.take_append_of_le_length (by rw [List.length_drop]; omega)]
  rw [e]
theorem StrOf.settle {t : TreeV} {kz z1 z2 zs : List Int} {A : List (List Int)} {h : List Int} (s : StrOf t kz z1 z2 zs A h) (hl : h.length = t.ln) : StrOf t kz z1 z2 zs (A ++ [t.node kz z1 z2 0 A.length false false h]) [] := by
 have h1 := s.le
 have hln : (A ++ [t.node kz z1 z2 0 A.length false false h]).length = A.length + 1 := by rw [List.length_append, List.length_singleton]
 have hm : (A.length + 1) * t.ln = A.length * t.ln + t.ln := by rw [Nat.add_mul, Nat.one_mul]
 refine ⟨by rw [hln, hm, List.length_nil]; omega, ?_, ?_⟩
 ·rw [hln, hm]
  exact (List.drop_eq_nil_of_le (by omega)).symm
 ·rw [hln, map_range_snoc]
  have e : piece t.ln zs A.length = h := by
   unfold piece
   rw [← s.hd]
   exact List.take_of_length_le (by omega)
  rw [e]
  have h2 := s.out
  exact congrArg (· ++ [t.node kz z1 z2 0 A.length false false h]) h2
theorem StrOf.is {t : TreeV} {kz z1 z2 zs : List Int} {A : List (List Int)} {h : List Int} (s : StrOf t kz z1 z2 zs A h) (hn : 1 ≤ t.ln) (hl : h.length ≤ t.ln) (h0 : h = [] → zs = []) : A.length = t.setN zs.length ∧ A = t.setA kz z1 z2 zs ∧ h = zs.drop (t.setN zs.length * t.ln) := by
 have h1 := s.le
 have e : A.length = t.setN zs.length := by
  unfold TreeV.setN
  split
  ·rename_i hz
   have h3 : A.length * t.ln = 0 := by omega
   rcases Nat.mul_eq_zero.1 h3 with h4 | h4
   ·exact h4
   ·omega
  ·rename_i hz
   have h4 : 1 ≤ h.length := Nat.pos_of_ne_zero fun e => hz (by rw [h0 (List.eq_nil_of_length_eq_zero e)]; rfl)
   refine (Nat.div_eq_of_lt_le ?_ ?_).symm
   ·omega
   ·rw [Nat.add_mul, Nat.one_mul]; omega
 refine ⟨e, ?_, by rw [← e]; exact s.hd⟩
 have h2 := s.out
 unfold TreeV.setA
 rw [← e]
 exact h2
/-- The root's row, by what is settled. -/
def TreeV.topS (t : TreeV) (s R : Nat) : Prop := 1 ≤ R ∧ t.rootZ R (t.cntS s (R - 1) + 1) = true ∧ ∀ q, 1 ≤ q → q < R → t.rootZ q (t.cntS s (q - 1) + 1) = false
theorem TreeV.root_zero {t : TreeV} (hv : t.validE = 0) {s r : Nat} (h : t.rootZ (r + 1) (t.cntS s r + 1) = true) : t.cntS s (r + 1) = 0 := by
 have hpn2 : (t.pn : Int) = t.p ∧ 2 ≤ t.p := by
  have := (TreeV.valid_facts hv).2.2.2.2.2.2.1
  unfold TreeV.pn
  omega
 rw [TreeV.cntS_next]
 split
 ·rfl
 ·rename_i hn
  refine Nat.div_eq_of_lt ?_
  have h1 : t.fn ≠ 0 := fun e => hn (.inl e)
  have h2 : ¬ t.pn ≤ r + 2 := fun e => hn (.inr e)
  rcases of_decide_eq_true h with h3 | h3 | h3
  ·exact absurd (by unfold TreeV.fn; rw [h3]; rfl) h1
  ·exfalso; omega
  ·unfold TreeV.fn; unfold TreeV.fn at h1; omega
/-- The digest: the last node of the root's row. -/
theorem TreeV.dig_ends {t : TreeV} (h : t.validE = 0) (hl : 0 ≤ t.l ∧ t.l ≤ 4294967295) (kz z1 z2 zs : List Int) (hn : zs.length ≤ 4194304) {R : Nat} (hR : t.topS (t.setN zs.length) R) : t.digZ kz z1 z2 zs = t.endO kz z1 z2 (t.setA kz z1 z2 zs) (zs.drop (t.setN zs.length * t.ln)) R := by
 have hL := TreeV.leafZ_facts h hl kz z1 z2 zs
 have hT := top_rows (err_small h hn) kz z1 z2 (leafZ_rows h hl kz z1 z2 zs) hL.2.2
 have hA := TreeV.setA_length t kz z1 z2 zs
 unfold TreeV.digZ
 rw [if_pos h]
 rw [TreeV.lvl_zero h hl kz z1 z2 zs] at hT ⊢
 have hE := TreeV.lvl_ends h kz z1 z2 (t.setA kz z1 z2 zs) (zs.drop (t.setN zs.length * t.ln)) hT
 have hlen : ∀ r, r ≤ (t.rowsOf zs.length).length - 1 → (t.lvlZ kz z1 z2 (t.setA kz z1 z2 zs ++ [t.endO kz z1 z2 (t.setA kz z1 z2 zs) (zs.drop (t.setN zs.length * t.ln)) 0]) r).length = t.cntS (t.setN zs.length) r + 1 := fun r hr => by
  rw [hE r hr, List.length_append, TreeV.setL_length, hA]; rfl
 have e : R = (t.rowsOf zs.length).length - 1 := by
  rcases Nat.lt_trichotomy R ((t.rowsOf zs.length).length - 1) with h1 | h1 | h1
  ·have h2 := hT.2.2 R hR.1 h1
   rw [hlen (R - 1) (by omega), hR.2.1] at h2
   cases h2
  ·exact h1
  ·have h2 := hR.2.2 _ hT.1 h1
   have h3 := hT.2.1
   rw [hlen _ (by omega), h2] at h3
   cases h3
 rw [← e, hE R (by omega)]
 obtain ⟨r, rfl⟩ : ∃ r, R = r + 1 := ⟨R - 1, by have := hR.1; omega⟩
 have h0 := TreeV.root_zero h hR.2.1
 have h1 : t.setL kz z1 z2 (t.setA kz z1 z2 zs) (r + 1) = [] := List.eq_nil_of_length_eq_zero (by rw [TreeV.setL_length, hA]; exact h0)
 rw [h1, List.nil_append]
 rfl
end Go.Proofs.Ytchepcilkcdemaa
namespace Go.Proofs.Ytchepcilkcdemaa
open Go.ChangeShapes Go.WideShapes Go.ChangeAt Go.RowKit Go.Joins Go.Shelf Go.Maps
open Go.Lib (hid)
attribute [local go_sem] Oper.semAt_some
/-- A stream's cells. -/
def strC (t : TreeV) (hv : Value) (tk : Int) (ov dv : Value) : Array Value := #[.int .i64 t.k, .int .i64 t.d, .int .i64 t.f, .int .i64 t.p, .int .u32 t.l, .int .i64 t.i, .slice t.ka t.kl t.kc, .slice t.sa t.sl t.sc, .slice t.pa t.pl t.pc, hv, .int .u64 tk, ov, dv, .bool true]
theorem none_sok (t : TreeV) (hv ov dv : Value) (tk : Int) (p : Nat) (w : World) (h : w.heap[p]? = some (.cells (strC t hv tk ov dv) 77 (0, 0))) :
  Calls Try.prog 38 #[.pointer (some ⟨p, 0, none⟩)] w fun e w' => e = .returned (.bool false) ∧ w' = w := by
 have c13 : w.cell? ⟨p, 13, none⟩ = some (.bool true) := cell_of_heap h 13
 have hl : p < w.heap.size := (Array.getElem?_eq_some_iff.1 h).1
 clear h
 go_enter Try.func38, Try.ntmps38
 go_wp2
 go_ret
 exact ⟨rfl, rfl⟩
theorem settled_sok (t : TreeV) (hv ov dv : Value) (tk : Int) (p B : Nat) (DN : List Nat) (r : Nat) (w : World) (h : w.heap[p]? = some (.cells (strC t hv tk ov dv) 77 (0, 0))) (hd : w.ownsRow B 36 1 dv DN.length (DN.map encU)) (hr : r ≤ 1000) :
  Calls Try.prog 39 #[.pointer (some ⟨p, 0, none⟩), .int .i64 (r : Nat)] w fun e w' => e = .returned (.int .u64 (DN.getD r 0 : Nat)) ∧ w' = w := by
 have c12 : w.cell? ⟨p, 12, none⟩ = some dv := cell_of_heap h 12
 have hl : p < w.heap.size := (Array.getElem?_eq_some_iff.1 h).1
 by_cases hlt : r < DN.length
 ·have hlt2 : (r : Int) < DN.length := by omega
  obtain ⟨g, cap, rfl, -, -, hg, hc⟩ := ownsRow_cells hd (by omega)
  have cr := hc r hlt
  have e : nth DN r = DN.getD r 0 := rfl
  rw [e] at cr
  generalize DN.getD r 0 = x at *
  clear h hd hc e
  go_enter Try.func39, Try.ntmps39
  go_wp2
  go_ret
  exact ⟨rfl, rfl⟩
 ·have hlt2 : ¬ ((r : Int) < DN.length) := by omega
  have e : DN.getD r 0 = 0 := by rw [List.getD_eq_getElem?_getD, List.getElem?_eq_none (by omega)]; rfl
  rw [e]
  obtain ⟨da, dn, dc, rfl⟩ := own_slice hd
  have hdn : dn = DN.length := by
   rcases hd.2 with ⟨e, e2⟩ | ⟨g, cap, cur, e, -⟩
   ·simp only [Value.slice.injEq] at e; omega
   ·simp only [Value.slice.injEq] at e; omega
  subst hdn
  clear h hd e
  go_enter Try.func39, Try.ntmps39
  go_wp2
  go_ret
  exact ⟨rfl, rfl⟩
theorem put_sok (L : List (List Int)) (z : List Int) (lv x : Value) (g i B : Nat) (cur : Array Value) (w : World) (hg : w.heap[g]? = some (.cells cur 82 (0, 0))) (hi : cur[i]? = some lv) (hl : ListO B w lv L) (hx : OwnB B w x z) (hn : L.length ≤ 8388608) (hB : B ≤ w.heap.size) :
  Calls Try.prog 54 #[.pointer (some ⟨g, i, none⟩), x] w fun e w' => e = .returned (.tuple #[]) ∧ ∃ lv', w'.heap[g]? = some (.cells (cur.setIfInBounds i lv') 82 (0, 0)) ∧ ListO B w' lv' (L ++ [z]) ∧ (lv'.ownBlock = lv.ownBlock ∨ ∀ k, lv'.ownBlock = some k → w.heap.size ≤ k) ∧ Spare (fun k => k ≠ g ∧ lv.ownBlock ≠ some k) w w' ∧ (∀ (k : Nat) (c : Array Value), w.heap[k]? = some (.cells c 5 (0, 0)) → w'.heap[k]? = some (.cells c 5 (0, 0))) := by
 have ci : w.cell? ⟨g, i, none⟩ = some lv := (cell_of_heap hg i).trans hi
 have hgl : g < w.heap.size := (Array.getElem?_eq_some_iff.1 hg).1
 have HG := hid hg
 have HL := hid hl
 have HX := hid hx
 obtain ⟨xs, hxs⟩ := hl.row
 have hne : lv.ownBlock ≠ some g := fun e => own_off hxs hg (by decide) g e rfl
 have HNE := hid hne
 obtain ⟨la, ln, lc, rfl⟩ := own_slice hxs
 obtain ⟨xa, xc, rfl, -, -⟩ := hx.hold.slice
 clear hg hl hx hxs hne hi
 go_enter Try.func54, Try.ntmps54
 go_wp2_with (first | ((with_reducible show wpList _ _ _ (Oper.mk _ (Op.buildSlice _ _ _) _ _ _ _ :: _) _ _); refine wpList_build1 rfl _ rfl _ _ _ rfl ?_) | (at_builtin; refine wpList_pushB rfl _ _ rfl B (.slice la ln lc) L z (.slice xa z.length xc) rfl HL.out HX.out rfl hn hB ?_; intro v' w' hlo' hkb' hsp' hat'; have hg' := (hsp'.block g hgl HNE.out).trans HG.out; obtain ⟨ys, hys⟩ := hlo'.row; obtain ⟨va, vn, vc, rfl⟩ := own_slice hys; have c0' : w'.cell? ⟨g, i, none⟩ = some (.slice la ln lc) := (cell_of_heap hg' i).trans ((cell_of_heap HG.out i).symm.trans ci); have f0' := frozen_of_row w' g i _ _ hg'; have s0' : g < w'.heap.size := (Array.getElem?_eq_some_iff.1 hg').1))
 have hXo : ∀ k, k ≠ g → (w'.setCell ⟨g, i, none⟩ (.slice va vn vc)).heap[k]? = w'.heap[k]? := fun k hk => heap_setCell_other _ _ _ _ hk
 refine bodyPost_end (results_none rfl _ _ _) rfl ⟨rfl, .slice va vn vc, heap_setCell_same _ g i cur _ _ hg', hlo'.off hg' (by decide) (by decide) hXo, hat', ⟨hsp'.os, hsp'.tape, hsp'.output, by simpa [World.setCell] using hsp'.size, fun k hk hs => (hXo k hs.1).trans (hsp'.block k hk hs.2)⟩, fun k c hk => ?_⟩
 have h3 := hkb'.bytes k c hk
 rw [hXo k (not_type hg' (by decide) k h3)]; exact h3
/-- Rows of lists of bytes, each of one's own. -/
def OpenV (B : Nat) (w : World) (lv : Value) (vs : List Value) (LL : List (List (List Int))) : Prop :=
 w.ownsRow B 82 1 lv LL.length vs ∧ (∀ i, i < LL.length → ListO B w (vs.getD i undef) (LL.getD i [])) ∧ ∀ i j g, i < j → j < LL.length → (vs.getD i undef).ownBlock = some g → (vs.getD j undef).ownBlock ≠ some g
theorem OpenV.len {B : Nat} {w : World} {lv : Value} {vs : List Value} {LL : List (List (List Int))} (h : OpenV B w lv vs LL) : vs.length = LL.length := by have := h.1.1; simpa using this
theorem OpenV.tend {B : Nat} {w w' : World} {lv : Value} {vs : List Value} {LL : List (List (List Int))} (h : OpenV B w lv vs LL) (hb : ∀ (k : Nat) (c : Array Value), w.heap[k]? = some (.cells c 5 (0, 0)) → w'.heap[k]? = some (.cells c 5 (0, 0)))
  (h1 : ∀ g, lv.ownBlock = some g → w'.heap[g]? = w.heap[g]?) (h2 : ∀ i g, i < LL.length → (vs.getD i undef).ownBlock = some g → w'.heap[g]? = w.heap[g]?) : OpenV B w' lv vs LL :=
 ⟨own_keep h.1 h1, fun i hi => (h.2.1 i hi).tend hb (fun g hg => h2 i g hi hg), h.2.2⟩
/-- An empty row more. -/
theorem OpenV.snoc {B : Nat} {w w' : World} {lv lv' : Value} {vs : List Value} {LL : List (List (List Int))} (h : OpenV B w lv vs LL) (ho : w'.ownsRow B 82 1 lv' (LL.length + 1) (vs ++ [.slice none 0 0])) (hk : KB B w w') (hsp : Spare (fun k => lv.ownBlock ≠ some k) w w') : OpenV B w' lv' (vs ++ [.slice none 0 0]) (LL ++ [[]]) := by
 have hl := h.len
 refine ⟨by simpa using ho, fun i hi => ?_, fun i j g hij hj hg => ?_⟩
 ·simp only [List.length_append, List.length_singleton] at hi
  rw [getD_snoc, getD_snoc, hl]
  by_cases h3 : i < LL.length
  ·rw [if_pos h3, if_pos h3]
   obtain ⟨xs, hxs⟩ := (h.2.1 i h3).row
   exact (h.2.1 i h3).kb hk (own_spare h.1 hxs (by decide) hsp)
  ·rw [if_neg h3, if_neg h3, if_pos (by omega), if_pos (by omega)]; exact ListO.nil _ _
 ·simp only [List.length_append, List.length_singleton] at hj
  rw [getD_snoc, hl] at hg ⊢
  by_cases h3 : j < LL.length
  ·rw [if_pos (by omega)] at hg
   rw [if_pos h3]
   exact h.2.2 i j g hij h3 hg
  ·rw [if_neg h3, if_pos (by omega)]
   intro e; cases e
theorem OpenV.off {B g : Nat} {w X : World} {lv : Value} {vs : List Value} {LL : List (List (List Int))} {c : Array Value} {T : TypeId} {fr : Nat × Nat} (h : OpenV B w lv vs LL) (hg : w.heap[g]? = some (.cells c T fr)) (h0 : T ≠ 82) (h1 : T ≠ 24) (h2 : T ≠ 5) (hX : ∀ k, k ≠ g → X.heap[k]? = w.heap[k]?) : OpenV B X lv vs LL :=
 ⟨own_keep h.1 (fun k hk => hX k (own_off h.1 hg h0 k hk)), fun i hi => (h.2.1 i hi).off hg h1 h2 hX, h.2.2⟩
/-- The last row has one list more. -/
theorem OpenV.put {B gl n cap : Nat} {w w1 : World} {vs : List Value} {DO : List (List (List Int))} {CO : List (List Int)} {out : List Int} {x : Value} (h : OpenV B w (.slice (some ⟨gl, 0, none⟩) n cap) vs (DO ++ [CO])) (h1 : ListO B w1 x (CO ++ [out])) (hk : KB B w w1) (hsp : Spare (fun k => (vs.getD DO.length undef).ownBlock ≠ some k) w w1)
  (hat : x.ownBlock = (vs.getD DO.length undef).ownBlock ∨ ∀ g, x.ownBlock = some g → w.heap.size ≤ g) : OpenV B (w1.setCell ⟨gl, DO.length, none⟩ x) (.slice (some ⟨gl, 0, none⟩) n cap) (vs.set DO.length x) (DO ++ [CO ++ [out]]) := by
 have hl := h.len
 simp only [List.length_append, List.length_singleton] at hl
 obtain ⟨ho, hx, hd⟩ := h
 have hlast := hx DO.length (by simp)
 obtain ⟨xs, hxs⟩ := hlast.row
 rcases ho.2 with ⟨e, -⟩ | ⟨g, cap', cur, e, p1, p2, p3, p4, p5, p6⟩
 ·cases e
 simp only [Value.slice.injEq, Option.some.injEq, Addr.mk.injEq, and_true] at e
 obtain ⟨rfl, rfl, rfl⟩ := e
 have q2 : w1.heap[gl]? = some (.cells cur 82 (0, 0)) := (hsp.block gl (Array.getElem?_eq_some_iff.1 p2).1 (fun e => own_off hxs p2 (by decide) gl e rfl)).trans p2
 have hX : ∀ k, k ≠ gl → (w1.setCell ⟨gl, DO.length, none⟩ x).heap[k]? = w1.heap[k]? := fun k hk => heap_setCell_other _ _ _ _ hk
 refine ⟨⟨by simp [hl], .inr ⟨gl, cap, _, by simp, p1, heap_setCell_same _ gl DO.length cur _ x q2, by simpa using p3, p4, by simpa using p5, ?_⟩⟩, fun i hi => ?_, fun i j g hij hj hg => ?_⟩
 ·rw [← p6, Array.toList_setIfInBounds, List.take_set]; simp
 ·rw [getD_set _ _ _ _ _ (by omega)]
  simp only [List.length_append, List.length_singleton] at hi
  by_cases hi2 : DO.length = i
  ·subst hi2
   rw [if_pos rfl, getD_snoc, if_neg (by omega), if_pos rfl]
   exact h1.off q2 (by decide) (by decide) hX
  ·rw [if_neg hi2, getD_snoc, if_pos (by omega)]
   have h3 := hx i (by simp; omega)
   rw [getD_snoc, if_pos (by omega)] at h3
   obtain ⟨ys, hys⟩ := h3.row
   exact (h3.kb hk (fun k hk => hsp.block k (own_block_lt hys k hk) (fun e => hd i DO.length k (by omega) (by simp) hk e))).off q2 (by decide) (by decide) hX
 ·rw [getD_set _ _ _ _ _ (by omega)] at hg ⊢
  simp only [List.length_append, List.length_singleton] at hj
  rw [if_neg (by omega)] at hg
  by_cases hj2 : DO.length = j
  ·subst hj2
   rw [if_pos rfl]
   have h3 := hx i (by simp; omega)
   obtain ⟨ys, hys⟩ := h3.row
   have h5 := own_block_lt hys g hg
   rcases hat with h4 | h4
   ·rw [h4]; exact hd i DO.length g hij (by simp) hg
   ·intro e; have := h4 g e; omega
  ·rw [if_neg hj2]
   exact hd i j g hij (by simp; omega) hg
theorem OpenV.nil (B : Nat) (w : World) : OpenV B w (.slice none 0 0) [] [] := ⟨World.ownsRow_nil _ _ _ _, fun i hi => by simp at hi, fun i j g _ hj => by simp at hj⟩
theorem OpenV.le {B b : Nat} {w : World} {lv : Value} {vs : List Value} {LL : List (List (List Int))} (h : OpenV B w lv vs LL) (hb : b ≤ B) : OpenV b w lv vs LL := ⟨ownsRow_le h.1 hb, fun i hi => (h.2.1 i hi).le hb, h.2.2⟩
theorem OpenV.below {B : Nat} {w w' : World} {lv : Value} {vs : List Value} {LL : List (List (List Int))} (h : OpenV B w lv vs LL) (hb : Below w.heap.size w w') : OpenV B w' lv vs LL :=
 h.tend (KB.of_below hb (Nat.zero_le _)).bytes (fun g hg => hb.block g (own_block_lt h.1 g hg)) (fun i g hi hg => hb.block g (by obtain ⟨xs, hx⟩ := (h.2.1 i hi).row; exact own_block_lt hx g hg))
theorem OpenV.at {B i : Nat} {w : World} {lv : Value} {vs : List Value} {LL : List (List (List Int))} (h : OpenV B w lv vs LL) (hi : i < LL.length) : ∃ g cap cur, lv = .slice (some ⟨g, 0, none⟩) LL.length cap ∧ B ≤ g ∧ w.heap[g]? = some (.cells cur 82 (0, 0)) ∧ cur[i]? = some (vs.getD i undef) := by
 obtain ⟨g, cap, e, h1, h2, h3⟩ := row_at h.1 (by omega)
 rcases h.1.2 with ⟨e2, -⟩ | ⟨g2, cap2, cur, e2, -, p2, -⟩
 ·rw [e] at e2; cases e2
 rw [e] at e2
 simp only [Value.slice.injEq, Option.some.injEq, Addr.mk.injEq, and_true, true_and] at e2
 obtain ⟨rfl, rfl⟩ := e2
 refine ⟨g, cap, cur, e, h1, p2, ?_⟩
 have h4 := h3 i (vs.getD i undef) (by have := h.len; rw [List.getD_eq_getElem?_getD, List.getElem?_eq_getElem (by omega)]; rfl)
 rwa [cell_of_heap p2 i] at h4
theorem full_sok (t : TreeV) (hvd : t.validE = 0) (hv ov dv : Value) (tk : Int) (p B : Nat) (vs : List Value) (LL : List (List (List Int))) (r : Nat) (w : World) (h : w.heap[p]? = some (.cells (strC t hv tk ov dv) 77 (0, 0))) (ho : OpenV B w ov vs LL) (hr : r < LL.length) (hr2 : r ≤ 1000) :
  Calls Try.prog 55 #[.pointer (some ⟨p, 0, none⟩), .int .i64 (r : Nat)] w fun e w' => e = .returned (.bool (decide (t.fn ≠ 0 ∧ r + 2 < t.pn ∧ t.fn ≤ (LL.getD r []).length))) ∧ ∃ m, w' = w.drewN m := by
 obtain ⟨g, cap, cur, rfl, -, hg, hc⟩ := ho.at hr
 have hx := ho.2.1 r hr
 obtain ⟨x, hxe⟩ : ∃ x, vs.getD r undef = x := ⟨_, rfl⟩
 rw [hxe] at hx hc
 generalize LL.getD r [] = S at *
 obtain ⟨xa, xc, rfl, hSi⟩ := hx.form
 have c2 : w.cell? ⟨p, 2, none⟩ = some (.int .i64 t.f) := cell_of_heap h 2
 have c3 : w.cell? ⟨p, 3, none⟩ = some (.int .i64 t.p) := cell_of_heap h 3
 have c11 : w.cell? ⟨p, 11, none⟩ = some (.slice (some ⟨g, 0, none⟩) LL.length cap) := cell_of_heap h 11
 have cg : w.cell? ⟨g, r, none⟩ = some (.slice xa S.length xc) := (cell_of_heap hg r).trans hc
 have hpl : p < w.heap.size := (Array.getElem?_eq_some_iff.1 h).1
 have hgl : g < w.heap.size := (Array.getElem?_eq_some_iff.1 hg).1
 have hfp := (TreeV.valid_facts hvd).2.2.2.2.2
 have hpn : (t.pn : Int) = t.p := by unfold TreeV.pn; omega
 have hf0 : 0 ≤ t.f ∧ t.f ≤ 255 := by rcases hfp.1 with h | h <;> omega
 have hfn : (t.fn : Int) = t.f := by unfold TreeV.fn; omega
 have hp2 : 2 ≤ t.p ∧ t.p ≤ 255 := ⟨hfp.2.1, hfp.2.2.1⟩
 have hLLi : (r : Int) < (LL.length : Int) := by omega
 have hw1 : IntKind.i64.wrap ((r : Int) + 1) = (r : Int) + 1 := by rw [IntKind.wrap_i64] <;> omega
 have hw2 : IntKind.i64.wrap (t.p - 1) = t.p - 1 := by rw [IntKind.wrap_i64] <;> omega
 obtain ⟨q, hq⟩ : ∃ q, decide (t.fn ≠ 0 ∧ r + 2 < t.pn ∧ t.fn ≤ S.length) = q := ⟨_, rfl⟩
 rw [hq]
 have KEY : (¬ (0 < t.f) ∧ q = false) ∨ ((0 < t.f ∧ ¬ ((r : Int) + 1 < t.p - 1) ∧ q = false) ∨ ((0 < t.f ∧ (r : Int) + 1 < t.p - 1 ∧ (S.length : Int) < t.f ∧ q = false) ∨ (0 < t.f ∧ (r : Int) + 1 < t.p - 1 ∧ t.f ≤ (S.length : Int) ∧ q = true))) := by
  by_cases k1 : 0 < t.f
  ·refine .inr ?_
   by_cases k2 : (r : Int) + 1 < t.p - 1
   ·refine .inr ?_
    by_cases k3 : t.f ≤ (S.length : Int)
    ·exact .inr ⟨k1, k2, k3, by rw [← hq]; exact decide_eq_true ⟨by omega, by omega, by omega⟩⟩
    ·exact .inl ⟨k1, k2, by omega, by rw [← hq]; exact decide_eq_false (by omega)⟩
   ·exact .inl ⟨k1, k2, by rw [← hq]; exact decide_eq_false (by omega)⟩
  ·exact .inl ⟨k1, by rw [← hq]; exact decide_eq_false (by omega)⟩
 clear h ho hg hc hx hfp hpn hf0 hfn hp2 hq hr hr2 hvd hxe
 go_enter Try.func55, Try.ntmps55
 go_upto_region 1 with (fail)
 rcases KEY with ⟨k1, rfl⟩ | ⟨k1, k2, rfl⟩ | ⟨k1, k2, k3, rfl⟩ | ⟨k1, k2, k3, rfl⟩
 all_goals
  go_quiet (fail)
  go_wp2
  go_ret
  first
  | exact ⟨rfl, nq, rfl⟩
  | refine ⟨?_, nq, rfl⟩
    have k4 : decide (t.f ≤ (S.length : Int)) = false := decide_eq_false (by omega)
    show Ending.returned (.bool (decide (t.f ≤ (S.length : Int)))) = _
    rw [k4]
  | refine ⟨?_, nq, rfl⟩
    have k4 : decide (t.f ≤ (S.length : Int)) = true := decide_eq_true (by omega)
    show Ending.returned (.bool (decide (t.f ≤ (S.length : Int)))) = _
    rw [k4]
/-- What 'take' answers. -/
def TakeP (L : List (List Int)) (g i B : Nat) (cur : Array Value) (w : World) (e : Ending) (w' : World) : Prop :=
 ∃ x lv', e = .returned x ∧ ListH w' x L ∧ w'.heap[g]? = some (.cells (cur.setIfInBounds i lv') 82 (0, 0)) ∧ ListO B w' lv' [] ∧ (∀ k, lv'.ownBlock = some k → w.heap.size ≤ k) ∧ Spare (fun k => k ≠ g) w w'
theorem src_zero (w : World) (a : Option Addr) (c : Nat) (h : a = none → c = 0) : SrcIs w (.slice a 0 c) 0 [] := by
 refine ⟨rfl, fun u hu => by simp at hu, ?_⟩
 cases a with
 | none => rw [h rfl]; exact .inl ⟨rfl, rfl⟩
 | some ad => exact .inr ⟨ad, c, rfl, fun j u hj => by simp at hj⟩
theorem take_sok (L : List (List Int)) (lv : Value) (g i B : Nat) (cur : Array Value) (w : World) (hg : w.heap[g]? = some (.cells cur 82 (0, 0))) (hi : cur[i]? = some lv) (hl : ListO B w lv L) (hn : 1 ≤ L.length) (hn2 : L.length ≤ 8388608) (hB : B ≤ w.heap.size) :
  Calls Try.prog 56 #[.pointer (some ⟨g, i, none⟩), .int .i64 (L.length : Nat)] w fun e w' => TakeP L g i B cur w e w' := by
 obtain ⟨ib, hib, hzb, hsb, hbb⟩ := info_parts info_bytes
 have ci : w.cell? ⟨g, i, none⟩ = some lv := (cell_of_heap hg i).trans hi
 have hgl : g < w.heap.size := (Array.getElem?_eq_some_iff.1 hg).1
 have HG := hid hg
 have HL := hid hl
 obtain ⟨gl, lc, u0, rfl, hgl2, hc0, -⟩ := hl.get (i := 0) (by omega)
 obtain ⟨hlc, hlc2⟩ : L.length ≤ lc ∧ (lc : Int) ≤ 9223372036854775807 := by
  obtain ⟨vs, ho, -⟩ := hl
  rcases ho.2 with ⟨e, -⟩ | ⟨g2, cap, cur2, e, -, -, h3, h4, -⟩
  ·cases e
  ·simp only [Value.slice.injEq] at e
   obtain ⟨-, -, rfl⟩ := e
   exact ⟨h3, by unfold maxLen at h4; omega⟩
 have hLi : (L.length : Int) ≤ 8388608 := by omega
 clear hg hi hl hc0 hgl2
 go_enter Try.func56, Try.ntmps56
 have hgne : g ≠ gl := fun e => by
  obtain ⟨vs, ho, -⟩ := HL.out
  exact own_off ho HG.out (by decide) gl rfl e.symm
 go_upto_region 2 with (fail)
 go_upto_region 3 with (at_builtin; refine wpList_append_now rfl _ _ _ rfl w w.heap.size rfl (Below.refl _ _) 24 ib (.slice none 0 0) 24 Try.underlying28 hib hzb hsb hbb rfl (.slice none 0 0) 0 [] rfl (World.ownsRow_nil _ _ _ _) _ 0 [] rfl (src_zero w _ _ (fun h => by split at h <;> cases h)) (by decide) (by omega) ?_; intro v' w' hown' hb'; obtain ⟨va, vn, vc, rfl⟩ := own_slice hown'; have hg' := (hb'.block g hgl).trans HG.out; have c0' : w'.cell? ⟨g, i, none⟩ = some (.slice (some ⟨gl, 0, none⟩) L.length lc) := (cell_of_heap hg' i).trans ((cell_of_heap HG.out i).symm.trans ci); have f0' := frozen_of_row w' g i _ _ hg'; have s0' : g < w'.heap.size := (Array.getElem?_eq_some_iff.1 hg').1)
 have hXo : ∀ k, k ≠ g → (w'.setCell ⟨g, i, none⟩ (.slice va vn vc)).heap[k]? = w'.heap[k]? := fun k hk => heap_setCell_other _ _ _ _ hk
 have HX1 := hid ((HL.out.below hb').off hg' (by decide) (by decide) hXo)
 have HX2 := hid (heap_setCell_same _ g i cur _ (.slice va vn vc) hg')
 have HX3 := hid (show ListO B (w'.setCell ⟨g, i, none⟩ (.slice va vn vc)) (.slice va vn vc) [] from ⟨[], ⟨rfl, by
  rcases hown'.2 with ⟨e, -⟩ | ⟨g2, cap2, cur2, e, p1, p2, p3, p4, p5, -⟩
  ·exact .inl ⟨e, rfl⟩
  ·refine .inr ⟨g2, cap2, cur2, e, by omega, (hXo g2 (by omega)).trans p2, p3, p4, p5, by simp⟩⟩, fun i hi => by simp at hi⟩)
 have HX4 := hid (show ∀ k, (Value.slice va vn vc).ownBlock = some k → w.heap.size ≤ k from fun k hk => own_block_ge hown' k hk)
 have HX5 := hid (show Spare (fun k => k ≠ g) w (w'.setCell ⟨g, i, none⟩ (.slice va vn vc)) from ⟨hb'.os, hb'.tape, hb'.output, by simpa [World.setCell] using hb'.size, fun k hk hs => (hXo k hs).trans (hb'.block k hk)⟩)
 clear hown' hb' hg' c0' f0' s0' hXo
 generalize w'.setCell ⟨g, i, none⟩ (.slice va vn vc) = Y at *
 go_wp2
 all_goals
  go_ret
  refine ⟨_, _, rfl, ?_, HX2.out, HX3.out, HX4.out, HX5.out⟩
  have h9 := HX1.out.hold.take (Nat.le_refl _)
  rwa [List.take_length] at h9
end Go.Proofs.Ytchepcilkcdemaa
namespace Go.Proofs.Ytchepcilkcdemaa
open Go.ChangeShapes Go.WideShapes Go.ChangeAt Go.RowKit Go.Joins Go.Shelf Go.Maps
open Go.Lib (hid)
attribute [local irreducible] TreeV.node
theorem OpenV.upd {B g i n cap : Nat} {w w' : World} {vs : List Value} {LL : List (List (List Int))} {L : List (List Int)} {x : Value} {cur : Array Value} (h : OpenV B w (.slice (some ⟨g, 0, none⟩) n cap) vs LL) (hi : i < LL.length) (hg : w.heap[g]? = some (.cells cur 82 (0, 0))) (hg' : w'.heap[g]? = some (.cells (cur.setIfInBounds i x) 82 (0, 0))) (hx : ListO B w' x L)
 (hat : x.ownBlock = (vs.getD i undef).ownBlock ∨ ∀ k, x.ownBlock = some k → w.heap.size ≤ k) (hsp : Spare (fun k => k ≠ g ∧ (vs.getD i undef).ownBlock ≠ some k) w w') (hby : ∀ (k : Nat) (c : Array Value), w.heap[k]? = some (.cells c 5 (0, 0)) → w'.heap[k]? = some (.cells c 5 (0, 0))) : OpenV B w' (.slice (some ⟨g, 0, none⟩) n cap) (vs.set i x) (LL.set i L) := by
 have hl := h.len
 obtain ⟨ho, hxs, hd⟩ := h
 rcases ho.2 with ⟨e, -⟩ | ⟨g2, cap2, cur2, e, p1, p2, p3, p4, p5, p6⟩
 ·cases e
 simp only [Value.slice.injEq, Option.some.injEq, Addr.mk.injEq, and_true] at e
 obtain ⟨rfl, rfl, rfl⟩ := e
 rw [hg] at p2
 simp only [Option.some.injEq, Obj.cells.injEq, and_true] at p2
 subst p2
 refine ⟨⟨by simp [hl], .inr ⟨g, cap, _, by rw [List.length_set], p1, hg', by rw [List.length_set]; exact p3, p4, by simpa using p5, ?_⟩⟩, fun j hj => ?_, fun j k b hjk hk hb => ?_⟩
 ·rw [← p6, List.length_set, Array.toList_setIfInBounds, List.take_set]
 ·rw [List.length_set] at hj
  rw [getD_set _ _ _ _ _ (by omega), getD_set _ _ _ _ _ hi]
  by_cases e : i = j
  ·rw [if_pos e, if_pos e]; exact hx
  ·rw [if_neg e, if_neg e]
   obtain ⟨ys, hys⟩ := (hxs j hj).row
   refine (hxs j hj).tend hby fun b hb => hsp.block b (own_block_lt hys b hb) ⟨own_off hys hg (by decide) b hb, fun e2 => ?_⟩
   rcases Nat.lt_or_gt_of_ne e with h1 | h1
   ·exact hd i j b h1 hj e2 hb
   ·exact hd j i b h1 hi hb e2
 ·rw [List.length_set] at hk
  rw [getD_set _ _ _ _ _ (by omega)] at hb ⊢
  by_cases e1 : i = j
  ·subst e1
   rw [if_pos rfl] at hb
   rw [if_neg (by omega)]
   rcases hat with h1 | h1
   ·rw [h1] at hb; exact hd i k b hjk hk hb
   ·intro e2
    obtain ⟨ys, hys⟩ := (hxs k hk).row
    have := own_block_lt hys b e2
    have := h1 b hb
    omega
  ·rw [if_neg e1] at hb
   by_cases e2 : i = k
   ·subst e2
    rw [if_pos rfl]
    rcases hat with h1 | h1
    ·rw [h1]; exact hd j i b hjk hk hb
    ·intro e3
     obtain ⟨ys, hys⟩ := (hxs j (by omega)).row
     have := own_block_lt hys b hb
     have := h1 b e3
     omega
   ·rw [if_neg e2]
    exact hd j k b hjk hk hb
theorem own_set {w : World} {B T n g i cap : Nat} {xs : List Value} {y : Value} (h : w.ownsRow B T 1 (.slice (some ⟨g, 0, none⟩) n cap) n xs) : (w.setCell ⟨g, i, none⟩ y).ownsRow B T 1 (.slice (some ⟨g, 0, none⟩) n cap) n (xs.set i y) := by
 refine ⟨by simpa using h.1, ?_⟩
 rcases h.2 with ⟨e, -⟩ | ⟨g2, cap2, cur, e, p1, p2, p3, p4, p5, p6⟩
 ·cases e
 simp only [Value.slice.injEq, Option.some.injEq, Addr.mk.injEq, and_true, true_and] at e
 obtain ⟨rfl, rfl⟩ := e
 exact .inr ⟨g, cap, _, rfl, p1, heap_setCell_same _ g i cur _ y p2, p3, p4, by simpa using p5, by rw [← p6, Array.toList_setIfInBounds, List.take_set]⟩
theorem set_map_range {α : Type} (f g : Nat → α) {m r : Nat} {x : α} (hx : x = g r) (h : ∀ i, i ≠ r → i < m → f i = g i) : ((List.range m).map f).set r x = (List.range m).map g := by
 refine List.ext_getElem? fun i => ?_
 rw [List.getElem?_set]
 simp only [List.length_map, List.length_range, List.getElem?_map]
 by_cases hi : i < m
 ·rw [List.getElem?_range hi]
  by_cases e : r = i
  ·subst e; rw [if_pos rfl, if_pos hi, hx]; rfl
  ·rw [if_neg e]; simp only [Option.map_some]; rw [h i (fun e2 => e e2.symm) hi]
 ·rw [List.getElem?_eq_none (by simp; omega)]
  by_cases e : r = i
  ·rw [if_pos e, if_neg (by omega)]; rfl
  ·rw [if_neg e]; rfl
/-- The rows below r as after the leaf. -/
def TreeV.mixL (t : TreeV) (kz z1 z2 : List Int) (A : List (List Int)) (a : List Int) (r i : Nat) : List (List Int) := if i < r then t.openL kz z1 z2 (A ++ [a]) i else t.openL kz z1 z2 A i
def TreeV.mixC (t : TreeV) (s r i : Nat) : Nat := if i < r then t.cntS (s + 1) i else t.cntS s i
theorem TreeV.carry_not {t : TreeV} {s r : Nat} (h : t.carry s r = false) : ∀ i, r ≤ i → t.carry s i = false := by
 intro i hi
 induction i with
 | zero => obtain rfl : r = 0 := by omega
           exact h
 | succ i ih =>
  by_cases e : r = i + 1
  ·rw [← e]; exact h
  ·show (t.carry s i && _) = false
   rw [ih (by omega), Bool.false_and]
theorem TreeV.mixL_at (t : TreeV) (kz z1 z2 : List Int) (A : List (List Int)) (a : List Int) (r : Nat) : t.mixL kz z1 z2 A a r r = t.openL kz z1 z2 A r := if_neg (by omega)
theorem TreeV.mixC_at (t : TreeV) (s r : Nat) : t.mixC s r r = t.cntS s r := if_neg (by omega)
/-- The row is full: it is emptied, and so on. -/
theorem TreeV.mixL_take {t : TreeV} (kz z1 z2 : List Int) (A : List (List Int)) (a : List Int) {r m : Nat} (h : t.carry A.length (r + 1) = true) : ((List.range m).map (t.mixL kz z1 z2 A a r)).set r [] = (List.range m).map (t.mixL kz z1 z2 A a (r + 1)) := by
 refine set_map_range _ _ ?_ fun i hi _ => ?_
 ·unfold TreeV.mixL
  rw [if_pos (by omega), TreeV.openL_snoc, if_pos h]
 ·unfold TreeV.mixL
  by_cases h1 : i < r
  ·rw [if_pos h1, if_pos (by omega)]
  ·rw [if_neg h1, if_neg (by omega)]
/-- The row is not full: that is all. -/
theorem TreeV.mixL_put {t : TreeV} (kz z1 z2 : List Int) (A : List (List Int)) (a : List Int) {r m : Nat} (h : t.carry A.length r = true) (h2 : t.carry A.length (r + 1) = false) : ((List.range m).map (t.mixL kz z1 z2 A a r)).set r (t.openL kz z1 z2 A r ++ [t.outS kz z1 z2 A a r]) = (List.range m).map (t.openL kz z1 z2 (A ++ [a])) := by
 refine set_map_range _ _ ?_ fun i hi _ => ?_
 ·rw [TreeV.openL_snoc, if_neg (by rw [h2]; decide), if_pos h]
 ·unfold TreeV.mixL
  by_cases h1 : i < r
  ·rw [if_pos h1]
  ·rw [if_neg h1, TreeV.openL_snoc, if_neg (by rw [TreeV.carry_not h2 (i + 1) (by omega)]; decide), if_neg (by rw [TreeV.carry_not h2 i (by omega)]; decide)]
theorem TreeV.mixC_put {t : TreeV} {s r m : Nat} (h : t.carry s r = true) : ((List.range m).map (t.mixC s r)).set r (t.cntS s r + 1) = (List.range m).map (t.mixC s (r + 1)) := by
 refine set_map_range _ _ ?_ fun i hi _ => ?_
 ·unfold TreeV.mixC
  rw [if_pos (by omega), TreeV.cntS_succ, if_pos h]
 ·unfold TreeV.mixC
  by_cases h1 : i < r
  ·rw [if_pos h1, if_pos (by omega)]
  ·rw [if_neg h1, if_neg (by omega)]
theorem TreeV.mixC_end {t : TreeV} {s r m : Nat} (h2 : t.carry s (r + 1) = false) : (List.range m).map (t.mixC s (r + 1)) = (List.range m).map (t.cntS (s + 1)) := by
 refine map_range_congr fun i _ => ?_
 unfold TreeV.mixC
 by_cases h1 : i < r + 1
 ·rw [if_pos h1]
 ·rw [if_neg h1, TreeV.cntS_succ, if_neg (by rw [TreeV.carry_not h2 i (by omega)]; decide), Nat.add_zero]
end Go.Proofs.Ytchepcilkcdemaa
