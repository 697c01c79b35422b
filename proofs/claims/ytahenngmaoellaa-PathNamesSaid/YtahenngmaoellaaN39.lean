/- The digest of a message, by both sides; a tree with bytes of its own. No condition. -/
import Derived.Test.YtahenngmaoellaaN37
import Derived.Test.YtahenngmaoellaaN38
import Derived.Test.YtahenngmaoellaaN06
import Derived.Test.YtahenngmaoellaaN30
import Derived.Test.YtahenngmaoellaaN20
import Derived.ArgAppend
set_option linter.all false
set_option maxRecDepth 100000
set_option maxHeartbeats 8000000
namespace Go.Proofs.Ytahenngmaoellaa
open Go.ChangeShapes Go.WideShapes Go.ChangeAt Go.RowKit Go.Joins Go.Shelf Go.Maps
open Go.Lib (hid)
attribute [local go_sem] Oper.semAt_some
/-- The digest of a message (none of a tree that may not be). -/
def TreeV.digZ (t : TreeV) (kz z1 z2 zs : List Int) : List Int := if t.validE = 0 then nthL (t.lvlZ kz z1 z2 (t.leafZ kz z1 z2 zs) ((t.rowsOf zs.length).length - 1)) 0 else []
theorem err_small {t : TreeV} {total : Nat} (h : t.validE = 0) (hn : total ≤ 4194304) : t.err total = 0 := by
 unfold TreeV.err
 rw [if_neg (by simp [h]), if_neg ?_]
 rintro ⟨-, h2⟩
 have hl : 1 ≤ t.ln ∨ t.ln = 0 := by omega
 rcases hl with hl | hl
 ·have := cdiv_le (n := total) hl; omega
 ·rw [hl] at h2
  unfold cdiv at h2
  split at h2 <;> simp at h2
theorem leafZ_rows {t : TreeV} (h : t.validE = 0) (hl : 0 ≤ t.l ∧ t.l ≤ 4294967295) (kz z1 z2 zs : List Int) : (t.leafZ kz z1 z2 zs).length = lvs zs.length t.ln := by
 have hln : 1 ≤ t.ln := by
  have := (TreeV.valid_facts h).2.2.2.2.2.2.2.2.1
  unfold TreeV.ln; omega
 rw [← cutZ_length zs hln]
 exact TreeV.rowZ_length ..
theorem row_at {W : World} {B T s n : Nat} {v : Value} {xs : List Value} (h : W.ownsRow B T s v n xs) (hn : 0 < n) : ∃ g cap, v = .slice (some ⟨g, 0, none⟩) n cap ∧ B ≤ g ∧ g < W.heap.size ∧ ∀ j u, xs[j]? = some u → W.cell? ⟨g, j, none⟩ = some u := by
 rcases h.2 with ⟨-, rfl⟩ | ⟨g, cap, cur, rfl, h1, h2, h3, h4, h5, h6⟩
 ·omega
 ·refine ⟨g, cap, rfl, h1, (Array.getElem?_eq_some_iff.1 h2).1, fun j u hu => (cell_of_heap h2 j).trans ?_⟩
  rw [← h6, List.getElem?_take] at hu
  split at hu
  ·rw [← Array.getElem?_toList]; exact hu
  ·cases hu
/-- A whole row behind a row. -/
theorem wpList_catR {P : Program} {ops : Array Oper} {rest : List Oper} {o : Oper} {a : Act} {Q : Exit → Act → World → Prop} {W : World} (hgd : o.guard = none) (s x : Operand) (t : TypeId)
 (ho : o.op = .call { callee := .builtin .append, args := #[s, x], argTypes := #[t, t] }) (B : Nat) (e : TypeId) (he : e ≠ 5) (i : TypeInfo) (z : Value) (size bytes : Nat) (ht : P.underlying t = some (.slice e)) (hi : P.info? e = some i) (hz : i.zero = some z)
 (hsize : i.size = size) (hby : i.bytes = bytes) (hzs : z.cells.size = size) (hsz : 0 < size) (v : Value) (n : Nat) (xs : List Value) (hs : a.eval s = v) (hown : W.ownsRow B e size v n xs)
 (B2 : Nat) (y : Value) (m : Nat) (ys : List Value) (hx : a.eval x = y) (hy : W.ownsRow B2 e size y m ys) (hm : 0 < m) (h1 : ∀ u ∈ ys, u.oneCell' = true) (h63 : n + m ≤ maxLen) (hbytes : (n + m) * bytes ≤ 140737488355328) (hB : B ≤ W.heap.size)
 (h : ∀ v' w', w'.ownsRow B e size v' (n + m) (xs ++ ys) → KB B W w' → Spare (fun k => v.ownBlock ≠ some k) W w' → (v'.ownBlock = v.ownBlock ∨ v'.ownBlock = some W.heap.size) → wpList P ops Q rest (a.put o.dst v') w') : wpList P ops Q (o :: rest) a W := by
 obtain ⟨g, cap, rfl, hg1, hg2, hg3⟩ := row_at hy hm
 refine wpList_append_own_at _ hgd s x t ho B e i z size bytes ht hi hz hsize hby hzs hsz v n xs hs hown ⟨g, 0, none⟩ m cap ys hx hy.1 (fun j u hj => ?_) h1 h63 hbytes hB fun v' w' h2 h3 _ h5 => ?_
 ·rw [Go.WideShapes.add_plain, Nat.zero_add]
  exact hg3 j u hj
 have hsp : Spare (fun k => v.ownBlock ≠ some k) W w' := Spare.of_grown h3
 refine h v' w' h2 ⟨hsp.os, hsp.tape, hsp.output, hsp.size, fun k hk => hsp.block k (by omega) (fun e2 => ?_), fun k c hc => ?_⟩ hsp h5
 ·rcases hown.2 with ⟨rfl, -⟩ | ⟨g, cap, cur, rfl, h4, -⟩
  ·cases e2
  ·simp only [Value.ownBlock, Option.some.injEq] at e2; omega
 ·rw [hsp.block k (Array.getElem?_eq_some_iff.1 hc).1 (fun e2 => ?_)]
  ·exact hc
  ·rcases hown.2 with ⟨rfl, -⟩ | ⟨g, cap, cur, rfl, -, h5, -⟩
   ·cases e2
   ·simp only [Value.ownBlock, Option.some.injEq] at e2
    subst e2
    rw [h5] at hc
    simp only [Option.some.injEq, Obj.cells.injEq] at hc
    exact he hc.2.1
/-- What a call gives. -/
def TreeV.outC (t : TreeV) (s : CallS) : List Int := callR t.big s.bs s.kz s.la s.o s.ds
theorem TreeV.outC_node (t : TreeV) (kz z1 z2 : List Int) (row i : Nat) (la rt : Bool) (d : List Int) : t.outC (t.callS kz z1 z2 row i la rt d) = t.node kz z1 z2 row i la rt d := rfl
/-- Rows of lists of bytes, each of one's own. -/
def RowsV (B : Nat) (w : World) (lv : Value) (vs : List Value) (LL : List (List (List Int))) : Prop :=
 w.ownsRow B 47 1 lv LL.length vs ∧ (∀ i, i < LL.length → ListO B w (vs.getD i undef) (LL.getD i [])) ∧ ∀ i j g, i < j → j < LL.length → (vs.getD i undef).ownBlock = some g → (vs.getD j undef).ownBlock ≠ some g
theorem RowsV.len {B : Nat} {w : World} {lv : Value} {vs : List Value} {LL : List (List (List Int))} (h : RowsV B w lv vs LL) : vs.length = LL.length := by have := h.1.1; simpa using this
theorem RowsV.tend {B : Nat} {w w' : World} {lv : Value} {vs : List Value} {LL : List (List (List Int))} (h : RowsV B w lv vs LL) (hb : ∀ (k : Nat) (c : Array Value), w.heap[k]? = some (.cells c 5 (0, 0)) → w'.heap[k]? = some (.cells c 5 (0, 0)))
  (h1 : ∀ g, lv.ownBlock = some g → w'.heap[g]? = w.heap[g]?) (h2 : ∀ i g, i < LL.length → (vs.getD i undef).ownBlock = some g → w'.heap[g]? = w.heap[g]?) : RowsV B w' lv vs LL :=
 ⟨own_keep h.1 h1, fun i hi => (h.2.1 i hi).tend hb (fun g hg => h2 i g hi hg), h.2.2⟩
theorem own_block_ge {w : World} {B T n s : Nat} {v : Value} {xs : List Value} (ho : w.ownsRow B T s v n xs) : ∀ g, v.ownBlock = some g → B ≤ g := by
 intro g hg
 rcases ho.2 with ⟨rfl, -⟩ | ⟨g', cap, cur, rfl, h1, -, -⟩
 ·cases hg
 ·simp only [Value.ownBlock, Option.some.injEq] at hg; omega
theorem own_block_at {w : World} {B T n s : Nat} {v : Value} {xs : List Value} (ho : w.ownsRow B T s v n xs) : ∀ g, v.ownBlock = some g → ∃ c, w.heap[g]? = some (.cells c T (0, 0)) := by
 intro g hg
 rcases ho.2 with ⟨rfl, -⟩ | ⟨g', cap, cur, rfl, -, h2, -⟩
 ·cases hg
 ·simp only [Value.ownBlock, Option.some.injEq] at hg
  subst hg
  exact ⟨_, h2⟩
theorem ListO.row {B : Nat} {w : World} {v : Value} {L : List (List Int)} (h : ListO B w v L) : ∃ vs, w.ownsRow B 24 1 v L.length vs := by
 obtain ⟨vs, ho, -⟩ := h
 exact ⟨vs, ho⟩
theorem getD_set {α : Type} (L : List α) (k i : Nat) (x d : α) (hk : k < L.length) : (L.set k x).getD i d = if k = i then x else L.getD i d := by
 simp only [List.getD_eq_getElem?_getD, List.getElem?_set]
 by_cases h : k = i
 ·subst h; simp [hk]
 ·simp [h]
/-- An empty row more. -/
theorem RowsV.snoc {B : Nat} {w w' : World} {lv lv' : Value} {vs : List Value} {LL : List (List (List Int))} (h : RowsV B w lv vs LL) (ho : w'.ownsRow B 47 1 lv' (LL.length + 1) (vs ++ [.slice none 0 0])) (hk : KB B w w') (hsp : Spare (fun k => lv.ownBlock ≠ some k) w w') : RowsV B w' lv' (vs ++ [.slice none 0 0]) (LL ++ [[]]) := by
 have hl := h.len
 refine ⟨by simpa using ho, fun i hi => ?_, fun i j g hij hj hg => ?_⟩
 ·simp only [List.length_append, List.length_singleton] at hi
  rw [getD_snoc, getD_snoc, hl]
  by_cases h3 : i < LL.length
  ·rw [if_pos h3, if_pos h3]
   obtain ⟨xs, hxs⟩ := (h.2.1 i h3).row
   exact (h.2.1 i h3).kb hk (own_spare h.1 hxs (by decide) hsp)
  ·rw [if_neg h3, if_neg h3, if_pos (by omega), if_pos (by omega)]; exact ListO.nil _ _
 ·simp only [List.length_append, List.length_singleton] at hj
  rw [getD_snoc, hl] at hg ⊢
  by_cases h3 : j < LL.length
  ·rw [if_pos (by omega)] at hg
   rw [if_pos h3]
   exact h.2.2 i j g hij h3 hg
  ·rw [if_neg h3, if_pos (by omega)]
   intro e; cases e
theorem Tend.of_below (F : Nat → Prop) {w w' : World} (hb : Below w.heap.size w w') : Tend F w w' := ⟨Spare.of_below _ hb, (KB.of_below hb (Nat.zero_le _)).bytes⟩
theorem kb_grown {W w' : World} {B T s n : Nat} {v : Value} {xs : List Value} (hown : W.ownsRow B T s v n xs) (hT : T ≠ 5) (h : W.grownBy w' v.ownBlock) (hB : B ≤ W.heap.size) : KB B W w' ∧ Spare (fun k => v.ownBlock ≠ some k) W w' := by
 have hsp : Spare (fun k => v.ownBlock ≠ some k) W w' := Spare.of_grown h
 refine ⟨⟨hsp.os, hsp.tape, hsp.output, hsp.size, fun k hk => hsp.block k (by omega) (fun e2 => by have := own_block_ge hown k e2; omega), fun k c hc => ?_⟩, hsp⟩
 rw [hsp.block k (Array.getElem?_eq_some_iff.1 hc).1 (fun e2 => ?_)]
 ·exact hc
 ·obtain ⟨c2, h2⟩ := own_block_at hown k e2
  rw [h2] at hc
  simp only [Option.some.injEq, Obj.cells.injEq] at hc
  exact hT hc.2.1
theorem not_type {w : World} {g : Nat} {c c2 : Array Value} {T T2 : TypeId} {fr fr2 : Nat × Nat} (h : w.heap[g]? = some (.cells c T fr)) (hT : T ≠ T2) : ∀ k, w.heap[k]? = some (.cells c2 T2 fr2) → k ≠ g := by
 rintro k hk rfl
 rw [h] at hk
 simp only [Option.some.injEq, Obj.cells.injEq] at hk
 exact hT hk.2.1
theorem own_off {w : World} {B T n s g : Nat} {v : Value} {xs : List Value} {c : Array Value} {T2 : TypeId} {fr : Nat × Nat} (ho : w.ownsRow B T s v n xs) (h : w.heap[g]? = some (.cells c T2 fr)) (hT : T2 ≠ T) : ∀ k, v.ownBlock = some k → k ≠ g := fun k hk => by
 obtain ⟨c2, h2⟩ := own_block_at ho k hk
 exact not_type h hT k h2
theorem ListO.off {B g : Nat} {w X : World} {v : Value} {L : List (List Int)} {c : Array Value} {T : TypeId} {fr : Nat × Nat} (h : ListO B w v L) (hg : w.heap[g]? = some (.cells c T fr)) (h1 : T ≠ 24) (h2 : T ≠ 5) (hX : ∀ k, k ≠ g → X.heap[k]? = w.heap[k]?) : ListO B X v L := by
 obtain ⟨xs, hx⟩ := h.row
 exact h.tend (fun k c hk => by rw [hX k (not_type hg h2 k hk)]; exact hk) (fun k hk => hX k (own_off hx hg h1 k hk))
theorem RowsV.off {B g : Nat} {w X : World} {lv : Value} {vs : List Value} {LL : List (List (List Int))} {c : Array Value} {T : TypeId} {fr : Nat × Nat} (h : RowsV B w lv vs LL) (hg : w.heap[g]? = some (.cells c T fr)) (h0 : T ≠ 47) (h1 : T ≠ 24) (h2 : T ≠ 5) (hX : ∀ k, k ≠ g → X.heap[k]? = w.heap[k]?) : RowsV B X lv vs LL :=
 ⟨own_keep h.1 (fun k hk => hX k (own_off h.1 hg h0 k hk)), fun i hi => (h.2.1 i hi).off hg h1 h2 hX, h.2.2⟩
/-- The last row has one list more. -/
theorem RowsV.put {B gl n cap : Nat} {w w1 : World} {vs : List Value} {DO : List (List (List Int))} {CO : List (List Int)} {out : List Int} {x : Value} (h : RowsV B w (.slice (some ⟨gl, 0, none⟩) n cap) vs (DO ++ [CO])) (h1 : ListO B w1 x (CO ++ [out])) (hk : KB B w w1) (hsp : Spare (fun k => (vs.getD DO.length undef).ownBlock ≠ some k) w w1)
  (hat : x.ownBlock = (vs.getD DO.length undef).ownBlock ∨ ∀ g, x.ownBlock = some g → w.heap.size ≤ g) : RowsV B (w1.setCell ⟨gl, DO.length, none⟩ x) (.slice (some ⟨gl, 0, none⟩) n cap) (vs.set DO.length x) (DO ++ [CO ++ [out]]) := by
 have hl := h.len
 simp only [List.length_append, List.length_singleton] at hl
 obtain ⟨ho, hx, hd⟩ := h
 have hlast := hx DO.length (by simp)
 obtain ⟨xs, hxs⟩ := hlast.row
 rcases ho.2 with ⟨e, -⟩ | ⟨g, cap', cur, e, p1, p2, p3, p4, p5, p6⟩
 ·cases e
 simp only [Value.slice.injEq, Option.some.injEq, Addr.mk.injEq, and_true] at e
 obtain ⟨rfl, rfl, rfl⟩ := e
 have q2 : w1.heap[gl]? = some (.cells cur 47 (0, 0)) := (hsp.block gl (Array.getElem?_eq_some_iff.1 p2).1 (fun e => own_off hxs p2 (by decide) gl e rfl)).trans p2
 have hX : ∀ k, k ≠ gl → (w1.setCell ⟨gl, DO.length, none⟩ x).heap[k]? = w1.heap[k]? := fun k hk => heap_setCell_other _ _ _ _ hk
 refine ⟨⟨by simp [hl], .inr ⟨gl, cap, _, by simp, p1, heap_setCell_same _ gl DO.length cur _ x q2, by simpa using p3, p4, by simpa using p5, ?_⟩⟩, fun i hi => ?_, fun i j g hij hj hg => ?_⟩
 ·rw [← p6, Array.toList_setIfInBounds, List.take_set]; simp
 ·rw [getD_set _ _ _ _ _ (by omega)]
  simp only [List.length_append, List.length_singleton] at hi
  by_cases hi2 : DO.length = i
  ·subst hi2
   rw [if_pos rfl, getD_snoc, if_neg (by omega), if_pos rfl]
   exact h1.off q2 (by decide) (by decide) hX
  ·rw [if_neg hi2, getD_snoc, if_pos (by omega)]
   have h3 := hx i (by simp; omega)
   rw [getD_snoc, if_pos (by omega)] at h3
   obtain ⟨ys, hys⟩ := h3.row
   exact (h3.kb hk (fun k hk => hsp.block k (own_block_lt hys k hk) (fun e => hd i DO.length k (by omega) (by simp) hk e))).off q2 (by decide) (by decide) hX
 ·rw [getD_set _ _ _ _ _ (by omega)] at hg ⊢
  simp only [List.length_append, List.length_singleton] at hj
  rw [if_neg (by omega)] at hg
  by_cases hj2 : DO.length = j
  ·subst hj2
   rw [if_pos rfl]
   have h3 := hx i (by simp; omega)
   obtain ⟨ys, hys⟩ := h3.row
   have h5 := own_block_lt hys g hg
   rcases hat with h4 | h4
   ·rw [h4]; exact hd i DO.length g hij (by simp) hg
   ·intro e; have := h4 g e; omega
  ·rw [if_neg hj2]
   exact hd i j g hij (by simp; omega) hg
/-- The account's rows. -/
def TreeV.accL (t : TreeV) (done : List (List CallS)) (cur : List CallS) : List (List (List Int)) := done.map (·.map t.outC) ++ (if cur.isEmpty then [] else [cur.map t.outC])
def AccR (t : TreeV) (w0 : World) (bl : Nat) (done : List (List CallS)) (cur : List CallS) (F : Nat → Prop) (w : World) : Prop :=
 ∃ lv vs, w.heap[bl]? = some (.cells #[lv] 40 (0, 0)) ∧ w0.heap.size ≤ bl ∧ RowsV w0.heap.size w lv vs (t.accL done cur) ∧ ∀ k, F k ↔ k = bl ∨ lv.ownBlock = some k ∨ ∃ i, i < (t.accL done cur).length ∧ (vs.getD i undef).ownBlock = some k
theorem accR_lt {t : TreeV} {w0 w : World} {bl : Nat} {done : List (List CallS)} {cur : List CallS} {F : Nat → Prop} (h : AccR t w0 bl done cur F w) : ∀ k, F k → w0.heap.size ≤ k ∧ k < w.heap.size := by
 obtain ⟨lv, vs, h1, h2, h3, h4⟩ := h
 intro k hk
 rcases (h4 k).1 hk with rfl | hk | ⟨i, hi, hk⟩
 ·exact ⟨h2, (Array.getElem?_eq_some_iff.1 h1).1⟩
 ·exact ⟨own_block_ge h3.1 k hk, own_block_lt h3.1 k hk⟩
 ·obtain ⟨xs, hx⟩ := (h3.2.1 i hi).row
  exact ⟨own_block_ge hx k hk, own_block_lt hx k hk⟩
theorem accL_put (t : TreeV) (done : List (List CallS)) (cur : List CallS) (s : CallS) : t.accL done (cur ++ [s]) = done.map (·.map t.outC) ++ [cur.map t.outC ++ [t.outC s]] := by
 unfold TreeV.accL
 rw [if_neg (by simp)]
 simp
theorem accL_nil (t : TreeV) (done : List (List CallS)) : t.accL done [] = done.map (·.map t.outC) := by simp [TreeV.accL]
theorem accL_cur (t : TreeV) (done : List (List CallS)) {cur : List CallS} (h : cur ≠ []) : t.accL done cur = done.map (·.map t.outC) ++ [cur.map t.outC] := by
 unfold TreeV.accL
 rw [if_neg (by simpa using h)]
theorem accL_next (t : TreeV) (done : List (List CallS)) {cur : List CallS} (hc : cur ≠ []) : t.accL (done ++ [cur]) [] = t.accL done cur := by
 rw [accL_nil, accL_cur t done hc, List.map_append]; rfl
theorem info_lists : (Try.prog.info? 47).map (fun i => (i.zero, i.size, i.bytes)) = some (some (.slice none 0 0), 1, 24) := by kernel_rfl
theorem wpList_buildN {ops : Array Oper} {rest : List Oper} {o : Oper} {act : Act} {w : World} {Q : Exit → Act → World → Prop} (hg : o.guard = none) (x : Operand) (ho : o.op = .buildSlice 40 1 #[(0, x)]) (a : Option Addr) (n k : Nat) (hx : act.eval x = .slice a n k)
  (h : wpList Try.prog ops Q rest (act.put o.dst (.slice (some ⟨w.heap.size, 0, none⟩) 1 1)) (w.alloc (.cells #[.slice a n k] 47))) : wpList Try.prog ops Q (o :: rest) act w := by
 obtain ⟨ib, hib, hzb, hsb, -⟩ := info_parts info_lists
 exact wpList_buildSlice hg 40 47 1 _ ho #[.slice a n k] ib _ Try.underlying40 hib hzb (by rw [hsb]; decide) (by rw [hsb]; decide) (by rw [hsb, show Array.range (1 * 1) = #[0] by decide]; simp [hx, Instr.fill, Value.cells]) h
theorem enter_rows (args : Array Value) (W : World) : (callFunc 16 args).run Try.prog W = .ok (.enter 16 args) W := by
 simp [callFunc, Try.func16, Try.f16]
theorem seer_rows {t : TreeV} {kz z1 z2 : List Int} {w0 : World} (hT : TreeOk t kz z1 z2 w0) (bl : Nat) : Seer t kz z1 z2 w0 16 bl (AccR t w0 bl) := by
 refine ⟨fun h => accR_lt h, fun h hb hF hB => ?_, fun hc h => ?_, fun h hrow hr hi hdl hcl hw hbo hko hdo hd => ?_⟩
 ·obtain ⟨lv, vs, h1, h2, h3, h4⟩ := h
  exact ⟨lv, vs, by rw [hF bl ((h4 bl).2 (.inl rfl))]; exact h1, h2, h3.tend hB (fun g hg => hF g ((h4 g).2 (.inr (.inl hg)))) (fun i g hi hg => hF g ((h4 g).2 (.inr (.inr ⟨i, hi, hg⟩)))), h4⟩
 ·obtain ⟨lv, vs, h1, h2, h3, h4⟩ := h
  rw [← accL_next t _ hc] at h3 h4
  exact ⟨lv, vs, h1, h2, h3, h4⟩
 ·rename_i done cur F w row i la rt d bv kv dv
  have hlt := accR_lt h
  obtain ⟨lv, vs, h1, h2, h3, h4⟩ := h
  obtain ⟨b0, hb0⟩ : ∃ b0, w.heap.size = b0 := ⟨_, rfl⟩
  have hblw : bl < w.heap.size := (Array.getElem?_eq_some_iff.1 h1).1
  have hw0 : w0.heap.size ≤ b0 := by have := hw.size; omega
  obtain ⟨a1, n1, c1, rfl⟩ := own_slice hbo
  obtain ⟨a2, n2, c2, rfl⟩ := own_slice hko
  obtain ⟨a3, c3, rfl, -, -⟩ := hdo.hold.slice
  obtain ⟨la1, ln1, lc1, rfl⟩ := own_slice h3.1
  have hln : ln1 = (t.accL done cur).length := by
   rcases h3.1.2 with ⟨e, e2⟩ | ⟨g, cap, cur, e, -⟩
   ·simp only [Value.slice.injEq] at e; omega
   ·simp only [Value.slice.injEq] at e; omega
  have hbA : Below b0 w (w.alloc (.cells #[.int .i64 t.k, .slice a1 n1 c1, .slice a2 n2 c2, .bool la, .int .i64 (t.outN rt), .slice a3 d.length c3] 61)) := by rw [← hb0]; exact (Below.refl _ _).alloc (Nat.le_refl _) _
  have hrA := World.alloc_heap_new w (.cells #[.int .i64 t.k, .slice a1 n1 c1, .slice a2 n2 c2, .bool la, .int .i64 (t.outN rt), .slice a3 d.length c3] 61)
  rw [hb0] at hrA
  have hbAx := hb0 ▸ hbA
  obtain ⟨ND, hND⟩ : ∃ ND, t.node kz z1 z2 row i la rt d = ND := ⟨_, rfl⟩
  have hnd := fun (W : World) (hb : Below b0 w W) => node_ok hT (row := row) (at_ := i) hr (by omega) la rt d (.slice a3 d.length c3) (.slice a1 n1 c1) (.slice a2 n2 c2) W _ (ownsRow_same' hbo (fun g _ g2 => hb.block g (by omega))) (ownsRow_same' hko (fun g _ g2 => hb.block g (by omega))) (hdo.hold.below (hb0 ▸ hb)) hd
  rw [hND] at hnd ⊢
  have HNO := hid hnd
  have HAP := hid (accL_put t done cur (t.callS kz z1 z2 row i la rt d))
  rw [TreeV.outC_node, hND] at HAP
  have H3 := hid h3
  have H4 := hid h4
  have HLT := hid hlt
  have HBA := hid hbA
  have HBL := hid h1
  have HDN := hid (show (done.map (·.map t.outC)).length = row by rw [List.length_map]; exact hrow)
  have HCN := hid (show (cur.map t.outC).length ≤ 8388608 by rw [List.length_map]; exact hcl)
  have HLN := hid hln
  clear h1 h3 h4 hlt hbo hko hdo hdl hbA hbAx hd hw hT hnd hND hrow hln
  unfold callC
  go_enter Try.func16, Try.ntmps16
  go_upto_region 1 with (fail)
  generalize w.alloc (.cells #[.int .i64 t.k, .slice a1 n1 c1, .slice a2 n2 c2, .bool la, .int .i64 (t.outN rt), .slice a3 d.length c3] 61) = wA at *
  have hsA : b0 < wA.heap.size := (Array.getElem?_eq_some_iff.1 hrA).1
  go_wp2_with ((with_reducible show wpList _ _ _ (Oper.mk _ (Op.load 61 _) _ _ _ _ :: _) _ _); refine wpList_load_row rfl 61 _ rfl b0 rfl _ _ _ _ hrA Try.underlying61 rfl (by kernel_rfl) ?_)
  refine (HNO.out wA HBA.out).mono ?_; rintro e w9 ⟨u, rfl, hu, hb9⟩
  obtain ⟨u1, u3, rfl, -, -⟩ := hu.hold.slice
  have HB9 := hid (HBA.out.trans (hb9.mono (show b0 ≤ wA.heap.size by omega)))
  have HU := hid (hu.le (show b0 ≤ wA.heap.size by omega))
  have HBL9 := hid ((HB9.out.block bl (by omega)).trans HBL.out)
  have hs9 := hb9.size
  have hk9 := KB.of_below (hb0 ▸ HB9.out) (Nat.zero_le _)
  have HV9 := hid (H3.out.tend hk9.bytes (fun g hg => HB9.out.block g (by have := own_block_lt H3.out.1 g hg; omega)) (fun i g hi hg => HB9.out.block g (by
   obtain ⟨xs, hx⟩ := (H3.out.2.1 i hi).row
   have := own_block_lt hx g hg; omega)))
  clear hu hb9 hrA hk9 HBA HBL H3 HNO
  have l9 : w9.cell? ⟨bl, 0, none⟩ = some (.slice la1 ln1 lc1) := cell_of_heap HBL9.out 0
  have s9 : bl < w9.heap.size := by omega
  have f9 := frozen_of_row w9 bl 0 _ _ HBL9.out
  obtain ⟨il, hil, hzl, hsl, hbl⟩ := info_parts info_lists
  have KEY : ∃ q : Bool, (cur = [] ↔ q = true) ∧ (((row : Nat) : Int) == (ln1 : Int)) = q := by
   refine ⟨_, ?_, rfl⟩
   rw [beq_iff_eq, HLN.out]
   by_cases hc : cur = []
   ·subst hc
    rw [accL_nil, HDN.out]; simp
   ·rw [accL_cur t done hc, List.length_append, HDN.out]
    simp only [hc, false_iff, List.length_singleton]; omega
  obtain ⟨q, hq, hq2⟩ := KEY
  have HQ := hid hq
  clear hq
  have hDR := HDN.out
  generalize hDO : done.map (·.map t.outC) = DO at *
  generalize hCO : cur.map t.outC = CO at *
  have hFb : ∀ k, (k = bl ∨ (Value.slice la1 ln1 lc1).ownBlock = some k ∨ ∃ i, i < (t.accL done cur).length ∧ (vs.getD i undef).ownBlock = some k) → F k := fun k hk => (H4.out k).2 hk
  clear H4 HLN
  cases q
  case' false =>
   have hcn : cur ≠ [] := fun e => by have := HQ.out.1 e; cases this
   have hLL := accL_cur t done hcn
   rw [hDO, hCO] at hLL
   have HV := HV9.out
   rw [hLL] at HV hFb
   have hHF : ∀ k, (k = bl ∨ (Value.slice la1 ln1 lc1).ownBlock = some k ∨ ∃ i, i < (DO ++ [CO]).length ∧ (vs.getD i undef).ownBlock = some k) → F k ∨ b0 ≤ k := fun k hk => .inl (hFb k hk)
   have HVX := hid HV
   have HFX := hid hHF
   have HTX := hid (Tend.of_below F (hb0 ▸ HB9.out))
   have HBX := hid HBL9.out
   have HUX := hid HU.out
   clear HV hFb hHF hLL HV9 HBL9 HU HB9 f9
   go_upto_region 4 with (fail)
   clear l9
   obtain ⟨X, hX⟩ : ∃ X, w9 = X := ⟨_, rfl⟩
   have hsX : b0 ≤ X.heap.size := by rw [← hX]; omega
   have hblX : bl < X.heap.size := by rw [← hX]; omega
   clear hs9 s9
   subst hX
   rename World => X
   generalize la1 = av at *
   generalize ln1 = nv at *
   generalize lc1 = cv at *
   generalize vs = vsX at *
  case' true =>
   have hcn : cur = [] := HQ.out.2 rfl
   have hLL : t.accL done cur = DO := by rw [hcn, accL_nil, hDO]
   have hCO0 : CO = [] := by rw [← hCO, hcn]; rfl
   have HV := HV9.out
   rw [hLL] at HV hFb
   have hbW : Below w9.heap.size w9 (w9.alloc (.cells #[.slice none 0 0] 47)) := (Below.refl _ _).alloc (Nat.le_refl _) _
   have hkW := KB.of_below hbW (Nat.zero_le _)
   have hVA := HV.tend hkW.bytes (fun g hg => hbW.block g (own_block_lt HV.1 g hg)) (fun i g hi hg => hbW.block g (by obtain ⟨xs, hx⟩ := (HV.2.1 i hi).row; exact own_block_lt hx g hg))
   have hrW := World.alloc_heap_new w9 (.cells #[.slice none 0 0] 47)
   have hone : (w9.alloc (.cells #[.slice none 0 0] 47)).ownsRow w0.heap.size 47 1 (.slice (some ⟨w9.heap.size, 0, none⟩) 1 1) 1 [.slice none 0 0] := ⟨rfl, .inr ⟨_, 1, _, rfl, by omega, hrW, by decide, by decide, rfl, rfl⟩⟩
   obtain ⟨bN, hbN⟩ : ∃ bN, w9.heap.size = bN := ⟨_, rfl⟩
   rw [show Value.slice (some ⟨w9.heap.size, 0, none⟩) 1 1 = Value.slice (some ⟨bN, 0, none⟩) 1 1 by rw [hbN]] at hone
   have hss : (w9.alloc (.cells #[.slice none 0 0] 47)).heap.size = bN + 1 := by rw [← hbN]; simp
   have HVA := hid hVA
   have HONE := hid hone
   have hblA := (hbW.block bl s9).trans HBL9.out
   have HBLA := hid hblA
   have hne : (Value.slice la1 ln1 lc1).ownBlock ≠ some bl := fun e => own_off HVA.out.1 HBLA.out (by decide) bl e rfl
   have HBW := hid (HB9.out.trans (hbW.mono (show b0 ≤ w9.heap.size by omega)))
   have HUA := hid (HU.out.kb hkW)
   clear hVA hone hblA hbW hkW hrW HV
   go_upto_region 4 with (first | ((with_reducible show wpList _ _ _ (Oper.mk _ (Op.buildSlice _ _ _) _ _ _ _ :: _) _ _); refine wpList_buildN rfl _ rfl none 0 0 rfl ?_; rw [hbN]; generalize w9.alloc (.cells #[.slice none 0 0] 47) = wB at *) | (at_builtin; refine wpList_catR rfl _ _ _ rfl w0.heap.size 47 (by decide) il (.slice none 0 0) 1 24 Try.underlying40 hil hzl hsl hbl rfl (by decide) (.slice la1 ln1 lc1) DO.length vs rfl HVA.out.1 w0.heap.size (.slice (some ⟨bN, 0, none⟩) 1 1) 1 [.slice none 0 0] rfl HONE.out (by omega) (by simp [Value.oneCell']) (by unfold maxLen; omega) (by omega) (by omega) ?_; intro v' w' hown' hkb' hsp' hat'; have hbl' := (hsp'.block bl (by omega) hne).trans HBLA.out; obtain ⟨av, nv, cv, rfl⟩ := own_slice hown'; have c0' : w'.cell? ⟨bl, 0, none⟩ = some (.slice la1 ln1 lc1) := cell_of_heap hbl' 0; have f0' := frozen_of_row w' bl 0 _ _ hbl'; have s0' : bl < w'.heap.size := (Array.getElem?_eq_some_iff.1 hbl').1))
   refine letterW ?_
   intro X hX
   have hXo : ∀ k, k ≠ bl → X.heap[k]? = w'.heap[k]? := fun k hk => by rw [hX]; exact heap_setCell_other _ _ _ _ hk
   have hsn : RowsV w0.heap.size w' (.slice av nv cv) (vs ++ [.slice none 0 0]) (DO ++ [CO]) := by rw [hCO0]; exact RowsV.snoc HVA.out hown' hkb' hsp'
   have hle := hkb'.size
   have hsX : b0 ≤ X.heap.size := by rw [hX]; simp [World.setCell]; omega
   have hblX : bl < X.heap.size := by rw [hX]; simp [World.setCell]; omega
   have HVX := hid (hsn.off hbl' (by decide) (by decide) (by decide) hXo)
   have HBX := hid (show X.heap[bl]? = some (.cells #[.slice av nv cv] 40 (0, 0)) by rw [hX]; exact heap_setCell_same _ bl 0 _ _ _ hbl')
   have hbyX : ∀ (k : Nat) (c : Array Value), wB.heap[k]? = some (.cells c 5 (0, 0)) → X.heap[k]? = some (.cells c 5 (0, 0)) := fun k c h => by
    have h2 := hkb'.bytes k c h
    rw [hXo k (not_type hbl' (by decide) k h2)]; exact h2
   have HUX := hid (HUA.out.tend hbyX)
   have HTX := hid (show Tend F w X from ⟨by
    refine (Spare.of_below (fun k => ¬ F k) (hb0 ▸ HBW.out)).trans (T := fun k => k ≠ bl ∧ (Value.slice la1 ln1 lc1).ownBlock ≠ some k) ?_ (fun k _ hk => ⟨fun e => hk (hFb k (.inl e)), fun e => hk (hFb k (.inr (.inl e)))⟩)
    refine ⟨by rw [hX]; exact hsp'.os, by rw [hX]; exact hsp'.tape, by rw [hX]; exact hsp'.output, by rw [hX]; simp [World.setCell]; omega, fun k hk hs => ?_⟩
    exact (hXo k hs.1).trans (hsp'.block k hk hs.2), fun k c h => hbyX k c ((KB.of_below (hb0 ▸ HBW.out) (Nat.zero_le _)).bytes k c h)⟩)
   have hvl := HVA.out.len
   have HFX := hid (show ∀ k, (k = bl ∨ (Value.slice av nv cv).ownBlock = some k ∨ ∃ i, i < (DO ++ [CO]).length ∧ ((vs ++ [Value.slice none 0 0]).getD i undef).ownBlock = some k) → F k ∨ b0 ≤ k from fun k hk => by
    rcases hk with hk | hk | ⟨i, hi, hk⟩
    ·exact .inl (hFb k (.inl hk))
    ·rcases hat' with h | h
     ·rw [h] at hk; exact .inl (hFb k (.inr (.inl hk)))
     ·rw [h] at hk; simp only [Option.some.injEq] at hk; exact .inr (by omega)
    ·rw [getD_snoc, hvl] at hk
     simp only [List.length_append, List.length_singleton] at hi
     by_cases hi2 : i < DO.length
     ·rw [if_pos hi2] at hk; exact .inl (hFb k (.inr (.inr ⟨i, hi2, hk⟩)))
     ·rw [if_neg hi2, if_pos (by omega)] at hk; cases hk)
   generalize vs ++ [.slice none 0 0] = vsX at *
   clear hX hXo hsn hle hbyX hown' hkb' hsp' hat' hbl' c0' f0' s0' hne hvl hCO0 hcn hLL HBLA HVA HONE HBW HUA HV9 HBL9 HU HB9 f9 l9 hFb hs9 s9 hss hbN
  all_goals
   obtain ⟨ib, hib, hzb, hsb, hbb⟩ := info_parts info_bytes
   obtain ⟨gl, cap, e, -, hgl, hgc⟩ := row_at HVX.out.1 (by simp)
   simp only [Value.slice.injEq] at e
   obtain ⟨rfl, rfl, rfl⟩ := e
   have hvl := HVX.out.len
   have hLR := HVX.out.2.1 DO.length (by simp)
   rw [getD_snoc, if_neg (by omega), if_pos rfl] at hLR
   obtain ⟨rv, hrv⟩ : ∃ rv, vsX.getD DO.length undef = rv := ⟨_, rfl⟩
   have hcw : X.cell? ⟨gl, DO.length, none⟩ = some rv := hgc _ _ (by
    rw [← hrv, List.getD_eq_getElem?_getD, List.getElem?_eq_getElem (by rw [hvl]; simp)]; rfl)
   obtain ⟨cr, hcr⟩ := own_block_at HVX.out.1 gl rfl
   rw [hrv] at hLR
   obtain ⟨xs, hxo, hxx⟩ := id hLR
   obtain ⟨ra, rn, rc, rfl⟩ := own_slice hxo
   have hxl : xs.length = CO.length := by have := hxo.1; simpa using this
   have hnb : bl ≠ gl := fun e => own_off HVX.out.1 HBX.out (by decide) gl rfl e.symm
   have hrb : (Value.slice ra rn rc).ownBlock ≠ some bl := fun e => own_off hxo HBX.out (by decide) bl e rfl
   have hrg : (Value.slice ra rn rc).ownBlock ≠ some gl := fun e => own_off hxo hcr (by decide) gl e rfl
   have hN : (DO ++ [CO]).length = row + 1 := by simp [hDR]
   rw [hDR] at hcw
   generalize hNN : (DO ++ [CO]).length = N at *
   have hNi : (row : Int) < (N : Int) := by omega
   have hNm : (N : Int) ≤ 9223372036854775807 := by omega
   have HN := hid hN
   have hcoN : CO.length ≤ 8388608 := HCN.out
   clear hN
   have HXO := hid hxo
   have HXX := hid hxx
   have HCW := hid hcw
   have HCR := hid hcr
   have HRV := hid hrv
   have HRB := hid hrb
   have HRG := hid hrg
   have HDR := hid hDR
   have HNN := hid hNN
   clear hxo hxx hcw hcr hrv hrb hrg hDR hgc hLR hNN hvl hDO hCO
   have hread : ∀ (W : World) (f : Bool), ((f = false → Below X.heap.size X W) ∧ (f = true → Spare (fun k => (Value.slice ra rn rc).ownBlock ≠ some k) X W ∧ KB w0.heap.size X W)) → W.cell? ⟨bl, 0, none⟩ = some (.slice (some ⟨gl, 0, none⟩) N cv) ∧ W.cell? ⟨gl, row, none⟩ = some (.slice ra rn rc) ∧ X.heap.size ≤ W.heap.size := fun W f hR => by
    have h1 : W.heap[bl]? = X.heap[bl]? ∧ W.heap[gl]? = X.heap[gl]? ∧ X.heap.size ≤ W.heap.size := by
     cases f
     ·exact ⟨(hR.1 rfl).block bl hblX, (hR.1 rfl).block gl hgl, (hR.1 rfl).size⟩
     ·exact ⟨(hR.2 rfl).1.block bl hblX HRB.out, (hR.2 rfl).1.block gl hgl HRG.out, (hR.2 rfl).1.size⟩
    refine ⟨cell_of_heap (h1.1.trans HBX.out) 0, ?_, h1.2.2⟩
    have := HCW.out
    rw [cell_of_heap HCR.out row] at this
    rw [cell_of_heap (h1.2.1.trans HCR.out) row]; exact this
   refine wp_region_otc (n := 9) (fun f W => (f = false → Below X.heap.size X W) ∧ (f = true → Spare (fun k => (Value.slice ra rn rc).ownBlock ≠ some k) X W ∧ KB w0.heap.size X W)) 8 [.v 20 (.slice (some ⟨gl, 0, none⟩) N cv), .v 21 (.int .i64 (row : Nat)), .v 22 (.slice (some ⟨gl, 0, none⟩) N cv), .v 23 (.int .i64 (row : Nat)), .v 24 (.pointer (some ⟨gl, row, none⟩)), .v 25 (.slice ra rn rc), .v 26 (.slice u1 ND.length u3), .p 27 (fun u W => ∃ q, u = .slice (some ⟨q, 0, none⟩) 1 1 ∧ X.heap.size ≤ q ∧ W.heap[q]? = some (.cells #[.slice u1 ND.length u3] 24 (0, 0))), .p 28 (fun u W => ListO w0.heap.size W u (CO ++ [ND]) ∧ (u.ownBlock = (Value.slice ra rn rc).ownBlock ∨ ∀ g, u.ownBlock = some g → X.heap.size ≤ g))] (by exact ⟨(fun _ _ hb _ h => by obtain ⟨q, e, h1, h2⟩ := h; exact ⟨q, e, h1, rowStay h2 hb⟩), (fun _ _ hb u h => ⟨h.1.below hb, h.2⟩), trivial⟩) ⟨fun _ => (Below.refl _ _).drew, fun h => (by cases h)⟩ (fun f W W' h hb => ⟨fun e => (h.1 e).trans (hb.mono (h.1 e).size), fun e => ⟨(h.2 e).1.trans (Spare.of_below _ hb) (fun _ _ h => h), (h.2 e).2.trans (KB.of_below hb (by have := (h.2 e).1.size; omega))⟩⟩) ?_ ?_ ?_
   ·repeat' (with_reducible first | exact eachO_nil | refine eachO_cons ?_ ?_)
    all_goals try
     refine .inr ?_
     intro A x W f hA hR hf hdep D K hK
     have a1 := hA.2 1 (by decide)
     conv at a1 => rhs; whnf
     have a2 := hA.2 2 (by decide)
     conv at a2 => rhs; whnf
     have a6 := hA.2 6 (by decide)
     conv at a6 => rhs; whnf
     simp only [DepF, nthF] at D
     have y0 := (hread W f hR).1
     have y1 := (hread W f hR).2.1
     have y2 := (hread W f hR).2.2
     have y3 : bl < W.heap.size := by omega
     have y4 : gl < W.heap.size := by omega
     clear hdep hA
     go_simp
     exact hK _ _ BR rfl
    any_goals exact .inl rfl
    all_goals refine .inr ?_
    intro A x W f hA hR hf hdep _ K hK
    have g26 := gw hA hdep 6 26
    clear hdep hA
    have g26' : A.tmps[26]?.getD undef = .slice u1 ND.length u3 := by rw [← Array.getD_eq_getD_getElem?]; exact g26
    go_simp
    exact hK _ _ ((Below.refl _ _).alloc (Nat.le_refl _) _) ⟨W.heap.size, rfl, (hread W f hR).2.2, World.alloc_heap_new W _⟩
   ·intro A x W hA hR hdep K hK
    have g25 := gw hA hdep 5 25
    have g27 : (fun u W => ∃ q, u = .slice (some ⟨q, 0, none⟩) 1 1 ∧ X.heap.size ≤ q ∧ W.heap[q]? = some (.cells #[.slice u1 ND.length u3] 24 (0, 0))) (x 27) W := hdep ⟨7, .data⟩ (by simp) rfl
    have a27 : A.tmps.getD 27 undef = x 27 := hA.1 27 (by decide)
    clear hdep hA
    have hB := hR.1 rfl
    have ho := ownsRow_same' HXO.out (fun g _ hg => hB.block g hg)
    obtain ⟨qb, eq, hq1, hq2⟩ := g27
    refine wp_append_src2 _ _ 47 rfl w0.heap.size 24 ib (.slice none 0 0) 24 Try.underlying47 hib hzb hsb hbb rfl (.slice ra rn rc) CO.length xs g25 ho (.slice (some ⟨qb, 0, none⟩) 1 1) 1 [.slice u1 ND.length u3] (a27.trans eq) ⟨rfl, by simp [Value.oneCell'], .inr ⟨⟨qb, 0, none⟩, 1, rfl, src_row hq2⟩⟩ (by unfold maxLen; omega) (by omega) (by have := hB.size; omega) ?_
    intro v' w' k1 k2 k3
    obtain ⟨k4, k5⟩ := kb_grown ho (by decide) k2 (by have := hB.size; omega)
    have hlx : ∀ k, (Value.slice ra rn rc).ownBlock = some k → k < X.heap.size := fun k hk => own_block_lt HXO.out k hk
    have k6 : ListO w0.heap.size w' v' (CO ++ [ND]) := ListO.snoc (w := W) (vs := xs) (x := .slice u1 ND.length u3) (fun i hi => (HXX.out i hi).kb (KB.of_below hB (Nat.zero_le _))) hxl ((HUX.out.kb (KB.of_below hB (Nat.zero_le _))).le hw0) k1 k4
    refine hK v' w' (fun h => by cases h) ⟨fun h => (by cases h), fun _ => ⟨(Spare.of_below _ hB).trans k5 (fun _ _ h => h), (KB.of_below hB (by omega)).trans k4⟩⟩ ⟨.inr (fun _ h => h), .inr (fun _ h => h), .inr (fun _ h => h), .inr (fun _ h => h), .inr (fun _ h => h), .inr (fun _ h => h), .inr (fun _ h => h), .inr (fun u h => by obtain ⟨q, e, j1, j2⟩ := h; exact ⟨q, e, j1, (k5.block q (Array.getElem?_eq_some_iff.1 j2).1 (fun e2 => by have := hlx q e2; omega)).trans j2⟩), .inl rfl, trivial⟩ ⟨k6, ?_⟩
    rcases k3 with k3 | k3
    ·exact .inl k3
    ·refine .inr fun g hg => ?_
     rw [k3] at hg; cases hg; exact hB.size
   intro x W hR hall
   obtain ⟨-, e28, -⟩ := hall
   change (fun u W => ListO w0.heap.size W u (CO ++ [ND]) ∧ (u.ownBlock = (Value.slice ra rn rc).ownBlock ∨ ∀ g, u.ownBlock = some g → X.heap.size ≤ g)) (x 28) W at e28
   obtain ⟨y0, y1, y2⟩ := hread W true hR
   obtain ⟨hsp, hkb⟩ := hR.2 rfl
   obtain ⟨ho8, hat8⟩ := e28
   obtain ⟨ys, hys⟩ := ho8.row
   obtain ⟨a8, n8, c8, e28⟩ := own_slice hys
   rw [e28] at ho8 hat8
   refine thenTail_cons ?_
   simp only [layS, Act.put, List.setIfInBounds_toArray, List.set_cons_zero, List.set_cons_succ, e28]
   have hput := RowsV.put (w1 := W) (x := .slice a8 n8 c8) HVX.out ho8 hkb (by rw [HRV.out]; exact hsp) (by rw [HRV.out]; exact hat8)
   rw [HDR.out] at hput
   have hglW : W.heap[gl]? = some (.cells cr 47 (0, 0)) := (hsp.block gl hgl HRG.out).trans HCR.out
   have hblW : W.heap[bl]? = some (.cells #[.slice (some ⟨gl, 0, none⟩) N cv] 40 (0, 0)) := (hsp.block bl hblX HRB.out).trans HBX.out
   have fr8 : W.frozen? ⟨gl, row, none⟩ = false := frozen_of_row W gl row _ _ hglW
   have y4 : gl < W.heap.size := by omega
   have HPUT := hid hput
   have HGLW := hid hglW
   have HBLW := hid hblW
   have HSP := hid hsp
   have HKB := hid hkb
   have HAT := hid hat8
   generalize x 27 = x27
   clear hput hglW hblW hsp hkb hat8 hys ho8 e28 hR hread y0
   go_wp2_with fail
   refine thenTail_cons ?_
   go_wp2_with fail
   refine thenTail_nil ?_
   have hYo : ∀ k, k ≠ gl → (W.setCell ⟨gl, row, none⟩ (.slice a8 n8 c8)).heap[k]? = W.heap[k]? := fun k hk => heap_setCell_other _ _ _ _ hk
   have hYs : (W.setCell ⟨gl, row, none⟩ (.slice a8 n8 c8)).heap.size = W.heap.size := by simp [World.setCell]
   have hby : ∀ (k : Nat) (c : Array Value), X.heap[k]? = some (.cells c 5 (0, 0)) → (W.setCell ⟨gl, row, none⟩ (.slice a8 n8 c8)).heap[k]? = some (.cells c 5 (0, 0)) := fun k c h => by
    have h3 := HKB.out.bytes k c h
    rw [hYo k (not_type HGLW.out (by decide) k h3)]; exact h3
   have HBY := hid hby
   have HYO := hid hYo
   have HYS := hid hYs
   have HO5 := hid (show (W.setCell ⟨gl, row, none⟩ (.slice a8 n8 c8)).os = w.os ∧ (W.setCell ⟨gl, row, none⟩ (.slice a8 n8 c8)).tape = w.tape ∧ (W.setCell ⟨gl, row, none⟩ (.slice a8 n8 c8)).output = w.output from ⟨HSP.out.os.trans HTX.out.sp.os, HSP.out.tape.trans HTX.out.sp.tape, HSP.out.output.trans HTX.out.sp.output⟩)
   clear hby hYo hYs fr8 y1 y2 y4
   generalize W.setCell ⟨gl, row, none⟩ (.slice a8 n8 c8) = Y at *
   go_wp2
   go_ret
   have hNN := HNN.out
   simp only [List.length_append, List.length_singleton] at hNN
   have hls : vsX.length = N := by have := HVX.out.len; rw [HNN.out] at this; exact this
   refine ⟨_, fun k => k = bl ∨ (Value.slice (some ⟨gl, 0, none⟩) N cv).ownBlock = some k ∨ ∃ i, i < (DO ++ [CO ++ [ND]]).length ∧ ((vsX.set row (.slice a8 n8 c8)).getD i undef).ownBlock = some k, rfl, by rw [hb0]; exact HUX.out.tend HBY.out, ?_, ⟨_, _, (HYO.out bl hnb).trans HBLW.out, h2, by rw [HAP.out]; exact HPUT.out, fun k => by rw [HAP.out]⟩, ?_, fun k c h => HBY.out k c (HTX.out.bytes k c h)⟩
   ·rw [hb0]
    rintro k (hk | hk | ⟨i, hi, hk⟩)
    ·exact HFX.out k (.inl hk)
    ·exact HFX.out k (.inr (.inl hk))
    ·simp only [List.length_append, List.length_singleton] at hi
     rw [getD_set _ _ _ _ _ (by omega)] at hk
     by_cases hi2 : row = i
     ·rw [if_pos hi2] at hk
      rcases HAT.out with h | h
      ·rw [h] at hk
       exact HFX.out k (.inr (.inr ⟨row, by omega, by rw [← HDR.out, HRV.out]; exact hk⟩))
      ·exact .inr (by have := h k hk; omega)
     ·rw [if_neg hi2] at hk
      exact HFX.out k (.inr (.inr ⟨i, by omega, hk⟩))
   ·refine HTX.out.sp.trans (T := fun k => k ≠ gl ∧ (Value.slice ra rn rc).ownBlock ≠ some k) ⟨HO5.out.1.trans HTX.out.sp.os.symm, HO5.out.2.1.trans HTX.out.sp.tape.symm, HO5.out.2.2.trans HTX.out.sp.output.symm, by rw [HYS.out]; exact HSP.out.size, fun k hk hs => (HYO.out k hs.1).trans (HSP.out.block k hk hs.2)⟩ (fun k hk hF => ⟨fun e => ?_, fun e => ?_⟩)
    ·rcases HFX.out k (.inr (.inl (by rw [e]; rfl))) with h | h
     ·exact hF h
     ·omega
    ·rcases HFX.out k (.inr (.inr ⟨row, by omega, by rw [← HDR.out, HRV.out]; exact e⟩)) with h | h
     ·exact hF h
     ·omega
theorem TreeV.allC_at (t : TreeV) (kz z1 z2 zs : List Int) {m i : Nat} (h : i < m) : (t.allC kz z1 z2 zs m).getD i [] = t.callsR kz z1 z2 zs i := by simp [TreeV.allC, List.getD_eq_getElem?_getD, h]
theorem TreeV.callsR_len {t : TreeV} (h : t.validE = 0) (hl : 0 ≤ t.l ∧ t.l ≤ 4294967295) (kz z1 z2 zs : List Int) (r : Nat) : 1 ≤ (t.callsR kz z1 z2 zs r).length ∧ (t.callsR kz z1 z2 zs r).length ≤ zs.length + 1 := by
 have := TreeV.dataR_facts h hl kz z1 z2 zs r
 unfold TreeV.callsR
 rw [TreeV.rowC_length]
 exact ⟨this.1, this.2.1⟩
theorem RowsV.nil (B : Nat) (w : World) : RowsV B w (.slice none 0 0) [] [] := ⟨World.ownsRow_nil _ _ _ _, fun i hi => by simp at hi, fun i j g _ hj => by simp at hj⟩
theorem RowsV.le {B b : Nat} {w : World} {lv : Value} {vs : List Value} {LL : List (List (List Int))} (h : RowsV B w lv vs LL) (hb : b ≤ B) : RowsV b w lv vs LL := ⟨ownsRow_le h.1 hb, fun i hi => (h.2.1 i hi).le hb, h.2.2⟩
theorem rows_err (t : TreeV) (v : Value) (w : World) (h : t.validE ≠ 0) :
  Calls Try.prog 8 #[t.val, v] w fun e w' => e = .returned (.tuple #[.slice none 0 0, .int .i64 t.validE]) ∧ Below w.heap.size w w' := by
 obtain ⟨b0, hb0⟩ : ∃ b0, w.heap.size = b0 := ⟨_, rfl⟩
 have HVL := hid (valid_any t)
 have hbA : Below b0 w (w.alloc (.cells #[.int .i64 t.k, .int .i64 t.d, .int .i64 t.f, .int .i64 t.p, .int .u32 t.l, .int .i64 t.i, .slice t.ka t.kl t.kc, .slice t.sa t.sl t.sc, .slice t.pa t.pl t.pc] 26)) := by rw [← hb0]; exact (Below.refl _ _).alloc (Nat.le_refl _) _
 have hrA := World.alloc_heap_new w (.cells #[.int .i64 t.k, .int .i64 t.d, .int .i64 t.f, .int .i64 t.p, .int .u32 t.l, .int .i64 t.i, .slice t.ka t.kl t.kc, .slice t.sa t.sl t.sc, .slice t.pa t.pl t.pc] 26)
 rw [hb0] at hrA
 generalize t.validE = ev at *
 have hq : (ev != 0) = true := by rw [bne_iff_ne]; exact h
 clear h
 unfold TreeV.val at *
 go_enter Try.func8, Try.ntmps8
 go_upto_region 1 with (fail)
 generalize w.alloc (.cells #[.int .i64 t.k, .int .i64 t.d, .int .i64 t.f, .int .i64 t.p, .int .u32 t.l, .int .i64 t.i, .slice t.ka t.kl t.kc, .slice t.sa t.sl t.sc, .slice t.pa t.pl t.pc] 26) = wA at *
 go_wp2_with ((with_reducible show wpList _ _ _ (Oper.mk _ (Op.load 26 _) _ _ _ _ :: _) _ _); refine wpList_load_row rfl 26 _ rfl b0 rfl _ _ _ _ hrA Try.underlying26 rfl (by kernel_rfl) ?_)
 refine (HVL.out wA).mono ?_; rintro e w2 ⟨rfl, hb2⟩
 have HB2 := hid (hbA.trans (hb2.mono (by have := (Array.getElem?_eq_some_iff.1 hrA).1; omega)))
 clear hrA hbA hb2
 go_wp2
 go_ret2
 exact ⟨rfl, by rw [hb0]; exact HB2.out⟩
theorem rowsT_ok (t : TreeV) (kz z1 z2 zs : List Int) (v : Value) (w : World) (h : TreeOk t kz z1 z2 w) (hv : Hold w v zs) (hn : zs.length ≤ 4194304) :
  Calls Try.prog 8 #[t.val, v] w fun e w' => ∃ u, e = .returned (.tuple #[u, .int .i64 0]) ∧ (∃ R, t.topAt kz z1 z2 (t.leafZ kz z1 z2 zs) R ∧ ∃ vs, RowsV w.heap.size w' u vs (t.accL (t.allC kz z1 z2 zs R) (t.callsR kz z1 z2 zs R))) ∧ Below w.heap.size w w' := by
 obtain ⟨b0, hb0⟩ : ∃ b0, w.heap.size = b0 := ⟨_, rfl⟩
 have hvl := valid_any t
 simp only [h.v] at hvl
 have HVL := hid hvl
 have HT := hid h
 have HCU := hid (fun (W : World) (hb : Below b0 w W) => cut_ok t h.v h.l zs v W (hv.below (hb0 ▸ hb)) (by omega))
 have HRO := hid (fun (bl : Nat) (W : World) (x : Value) (F0 : Nat → Prop) (hw : Below w.heap.size w W) (hI : AccR t w bl [] [] F0 W) (hx : ListO w.heap.size W x (cutZ t.ln zs)) (hxF : ∀ g, x.ownBlock = some g → ¬ F0 g) => rows_see (seer_rows h bl) h hn x W F0 hw hI hx hxF enter_rows)
 obtain ⟨va, vc, rfl, -, -⟩ := hv.slice
 have hbA : Below b0 w (w.alloc (.cells #[.int .i64 t.k, .int .i64 t.d, .int .i64 t.f, .int .i64 t.p, .int .u32 t.l, .int .i64 t.i, .slice t.ka t.kl t.kc, .slice t.sa t.sl t.sc, .slice t.pa t.pl t.pc] 26)) := by rw [← hb0]; exact (Below.refl _ _).alloc (Nat.le_refl _) _
 have hrA := World.alloc_heap_new w (.cells #[.int .i64 t.k, .int .i64 t.d, .int .i64 t.f, .int .i64 t.p, .int .u32 t.l, .int .i64 t.i, .slice t.ka t.kl t.kc, .slice t.sa t.sl t.sc, .slice t.pa t.pl t.pc] 26)
 rw [hb0] at hrA
 generalize hCZ : cutZ t.ln zs = CZ at *
 clear h hv hvl hCZ
 unfold TreeV.val at *
 go_enter Try.func8, Try.ntmps8
 go_upto_region 1 with (fail)
 generalize w.alloc (.cells #[.int .i64 t.k, .int .i64 t.d, .int .i64 t.f, .int .i64 t.p, .int .u32 t.l, .int .i64 t.i, .slice t.ka t.kl t.kc, .slice t.sa t.sl t.sc, .slice t.pa t.pl t.pc] 26) = wA at *
 go_wp2_with ((with_reducible show wpList _ _ _ (Oper.mk _ (Op.load 26 _) _ _ _ _ :: _) _ _); refine wpList_load_row rfl 26 _ rfl b0 rfl _ _ _ _ hrA Try.underlying26 rfl (by kernel_rfl) ?_)
 refine (HVL.out wA).mono ?_; rintro e w2 ⟨rfl, hb2⟩
 have hr2 := rowStay hrA hb2
 have hB2 := hbA.trans (hb2.mono (by have := (Array.getElem?_eq_some_iff.1 hrA).1; omega))
 have HB2 := hid hB2
 have hs2 : b0 < w2.heap.size := (Array.getElem?_eq_some_iff.1 hr2).1
 clear hrA hbA hb2 hB2
 go_upto_region 5 with (fail)
 refine letterW ?_
 intro V hV
 obtain ⟨bl, hbl⟩ : ∃ bl, w2.heap.size = bl := ⟨_, rfl⟩
 have hrB : V.heap[bl]? = some (.cells #[.slice none 0 0] 40 (0, 0)) := by rw [hV, ← hbl]; exact World.alloc_heap_new _ _
 have hbV : Below bl w2 V := by rw [hV, ← hbl]; exact (Below.refl _ _).alloc (Nat.le_refl _) _
 have hrV : V.heap[b0]? = some (.cells #[.int .i64 t.k, .int .i64 t.d, .int .i64 t.f, .int .i64 t.p, .int .u32 t.l, .int .i64 t.i, .slice t.ka t.kl t.kc, .slice t.sa t.sl t.sc, .slice t.pa t.pl t.pc] 26 (0, 0)) := (hbV.block b0 (by omega)).trans hr2
 have HBV := hid (HB2.out.trans (hbV.mono (show b0 ≤ bl by omega)))
 have hsV : bl < V.heap.size := (Array.getElem?_eq_some_iff.1 hrB).1
 have hacc : AccR t w bl [] [] (fun k => k = bl) V := ⟨.slice none 0 0, [], hrB, by omega, RowsV.nil _ _, fun k => ⟨fun h => .inl h, fun h => by
  rcases h with h | h | ⟨i, hi, h⟩
  ·exact h
  ·cases h
  ·simp [TreeV.accL] at hi⟩⟩
 have HACC := hid hacc
 rw [hbl]
 have hb0l : b0 < bl := by omega
 clear hV hbV hr2 hbl hrB hacc
 refine wp_region_c (n := 5) (w0 := V) (B := V.heap.size) [.v 13 (.agg #[.int .i64 t.k, .int .i64 t.d, .int .i64 t.f, .int .i64 t.p, .int .u32 t.l, .int .i64 t.i, .slice t.ka t.kl t.kc, .slice t.sa t.sl t.sc, .slice t.pa t.pl t.pc]), .v 14 (.agg #[.int .i64 t.k, .int .i64 t.d, .int .i64 t.f, .int .i64 t.p, .int .u32 t.l, .int .i64 t.i, .slice t.ka t.kl t.kc, .slice t.sa t.sl t.sc, .slice t.pa t.pl t.pc]), .v 15 (.slice va zs.length vc), .p 16 (fun u W => ListO V.heap.size W u CZ), .v 17 (.func (.func 16) #[] #[.pointer (some ⟨bl, 0, none⟩)])] (by exact ⟨(fun _ _ _ h hb => ListO.below h hb), trivial⟩) (Below.refl _ _).drew (Nat.le_refl _) ?_ ?_
 ·repeat' (with_reducible first | exact eachO_nil | refine eachO_cons ?_ ?_)
  ·intro AA x W hA hW hBW hdep D K hK
   have a2 := hA.2 2 (by decide)
   conv at a2 => rhs; whnf
   clear hdep hA
   exact wp_load_row 26 _ rfl b0 a2 _ _ _ _ (rowStay hrV hW) Try.underlying26 rfl (by kernel_rfl) (hK _ _ (Below.refl _ _) rfl)
  ·intro AA x W hA hW hBW hdep D K hK
   have a2 := hA.2 2 (by decide)
   conv at a2 => rhs; whnf
   clear hdep hA
   exact wp_load_row 26 _ rfl b0 a2 _ _ _ _ (rowStay hrV hW) Try.underlying26 rfl (by kernel_rfl) (hK _ _ (Below.refl _ _) rfl)
  ·intro AA x W hA hW hBW hdep D K hK
   have a1 := hA.2 1 (by decide)
   conv at a1 => rhs; whnf
   clear hdep hA
   go_simp
   exact hK _ _ (Below.refl _ _) rfl
  ·intro AA x W hA hW hBW hdep _ K hK
   have g14 := gv hA hdep 1 14
   have g15 := gv hA hdep 2 15
   clear hdep hA
   go_simp
   refine (HCU.out W (HBV.out.trans (hW.mono (by omega)))).mono ?_; rintro e w5 ⟨u, rfl, ho, hb5⟩
   exact hK _ _ hb5 (ho.le hBW)
  ·intro AA x W hA hW hBW hdep D K hK
   have a7 := hA.2 7 (by decide)
   conv at a7 => rhs; whnf
   clear hdep hA
   go_simp
   exact hK _ _ (Below.refl _ _) rfl
 intro x W hW hBW hall
 obtain ⟨e16, -⟩ := hall
 change (fun u W => ListO V.heap.size W u CZ) (x 16) W at e16
 refine thenTail_cons ?_
 simp only [layS, Act.put, List.setIfInBounds_toArray, List.set_cons_zero, List.set_cons_succ]
 generalize x 16 = X at *
 have hxF : ∀ g, X.ownBlock = some g → ¬ g = bl := fun g hg e => by
  obtain ⟨vs, ho, -⟩ := e16
  rcases ho.2 with ⟨rfl, -⟩ | ⟨g2, cap, cur, rfl, h5, -⟩
  ·cases hg
  ·simp only [Value.ownBlock, Option.some.injEq] at hg; omega
 have hbW := HBV.out.trans (hW.mono (show b0 ≤ V.heap.size by omega))
 have hk := KB.of_below hW (Nat.zero_le _)
 have hacW := (seer_rows HT.out bl).keep HACC.out (hW.mono (show w.heap.size ≤ V.heap.size by omega)) (fun k hk => hW.block k (by rw [show k = bl from hk]; exact hsV)) hk.bytes
 have HR := hid (HRO.out bl W X (fun k => k = bl) (by rw [hb0]; exact hbW) hacW (by rw [hb0]; exact e16.le (by omega)) hxF)
 have HBW := hid hbW
 have hblW : bl < W.heap.size := by have := hW.size; omega
 clear e16 hxF hbW hk hacW HRO HACC hrV
 go_wp2_with fail
 refine HR.out.mono ?_; rintro e w6 ⟨rfl, ⟨R, F', hR, hI, -⟩, hb6, -⟩
 go_wp2_with fail
 refine thenTail_nil ?_
 obtain ⟨lv, vs, l1, l2, l3, -⟩ := hI
 obtain ⟨la1, ln1, lc1, rfl⟩ := own_slice l3.1
 have c0 : w6.cell? ⟨bl, 0, none⟩ = some (.slice la1 ln1 lc1) := cell_of_heap l1 0
 have s0 : bl < w6.heap.size := (Array.getElem?_eq_some_iff.1 l1).1
 have HL3 := hid l3
 have HB6 := hid hb6
 have HTOP := hid hR
 clear l1 l3 hb6 hR
 go_wp2
 go_ret2
 exact ⟨_, rfl, ⟨R, HTOP.out, _, HL3.out⟩, (show Below w.heap.size w W by rw [hb0]; exact HBW.out).trans HB6.out⟩
/-- The outputs of all nodes, and of the leaves (none of a tree that may not be). -/
def TreeV.rowsZ (t : TreeV) (kz z1 z2 zs : List Int) : List (List (List Int)) := if t.validE = 0 then (t.allC kz z1 z2 zs ((t.rowsOf zs.length).length - 1 + 1)).map (·.map t.outC) else []
theorem rows_any (t : TreeV) (kz z1 z2 zs : List Int) (v : Value) (w : World) (hl : 0 ≤ t.l ∧ t.l ≤ 4294967295) (hk : Hold w (.slice t.ka t.kl t.kc) kz) (hs : Hold w (.slice t.sa t.sl t.sc) z1) (hp : Hold w (.slice t.pa t.pl t.pc) z2) (hv : Hold w v zs) (hn : zs.length ≤ 4194304) :
  Calls Try.prog 8 #[t.val, v] w fun e w' => ∃ u vs, e = .returned (.tuple #[u, .int .i64 t.validE]) ∧ RowsV w.heap.size w' u vs (t.rowsZ kz z1 z2 zs) ∧ Below w.heap.size w w' := by
 unfold TreeV.rowsZ
 by_cases h : t.validE = 0
 ·refine (rowsT_ok t kz z1 z2 zs v w ⟨h, hl, hk, hs, hp⟩ hv hn).mono ?_
  rintro e w' ⟨u, rfl, ⟨R, hR, vs, ho⟩, hb⟩
  have hL := TreeV.leafZ_facts h hl kz z1 z2 zs
  have hT := top_rows (err_small h hn) kz z1 z2 (leafZ_rows h hl kz z1 z2 zs) hL.2.2
  rw [TreeV.topAt_one hR hT] at ho
  refine ⟨u, vs, by rw [h], ?_, hb⟩
  rw [if_pos h, TreeV.allC_succ, List.map_append]
  rw [accL_cur t _ (List.length_pos_iff.1 (TreeV.callsR_len h hl kz z1 z2 zs _).1)] at ho
  exact ho
 ·refine (rows_err t v w h).mono ?_
  rintro e w' ⟨rfl, hb⟩
  exact ⟨_, [], rfl, by rw [if_neg h]; exact RowsV.nil _ _, hb⟩
/-- Bytes of one's own in a list of one's own, its values told. -/
def DigV (B : Nat) (W : World) (v : Value) (L : List (List Int)) (ds : List Value) : Prop :=
 W.ownsRow B 24 1 v L.length ds ∧ ∀ j, j < L.length → OwnB B W (ds.getD j undef) (nthL L j)
def dgV (DS : List (List Value)) (a i : Nat) : Value := (DS.getD a []).getD i undef
theorem DigV.len {B : Nat} {W : World} {v : Value} {L : List (List Int)} {ds : List Value} (h : DigV B W v L ds) : ds.length = L.length := by have := h.1.1; simpa using this
theorem DigV.keep {B b : Nat} {W W' : World} {v : Value} {L : List (List Int)} {ds : List Value} (h : DigV B W v L ds) (k : KB b W W') (hs : ∀ g, v.ownBlock = some g → W'.heap[g]? = W.heap[g]?) : DigV B W' v L ds :=
 ⟨own_keep h.1 hs, fun j hj => (h.2 j hj).kb k⟩
theorem ownB_lt {B : Nat} {W : World} {v : Value} {z : List Int} (h : OwnB B W v z) : ∀ g, v.ownBlock = some g → B ≤ g ∧ g < W.heap.size := fun g hg => by
 exact fresh_block h.2 g hg
/-- Such lists; no two share memory. -/
structure ListsV (B : Nat) (W : World) (xs : List Value) (LL : List (List (List Int))) (DS : List (List Value)) : Prop where
 lx : xs.length = LL.length
 ld : DS.length = LL.length
 each : ∀ a, a < LL.length → DigV B W (xs.getD a undef) (LL.getD a []) (DS.getD a [])
 ax : ∀ a b g, a ≠ b → (xs.getD a undef).ownBlock = some g → (xs.getD b undef).ownBlock ≠ some g
 ad : ∀ a i b j g, (a ≠ b ∨ i ≠ j) → (dgV DS a i).ownBlock = some g → (dgV DS b j).ownBlock ≠ some g
namespace ListsV
variable {B : Nat} {W W' : World} {xs : List Value} {LL : List (List (List Int))} {DS : List (List Value)}
theorem xlt (h : ListsV B W xs LL DS) : ∀ a g, (xs.getD a undef).ownBlock = some g → B ≤ g ∧ g < W.heap.size := fun a g hg => by
 by_cases ha : a < LL.length
 ·exact ⟨own_block_ge (h.each a ha).1 g hg, own_block_lt (h.each a ha).1 g hg⟩
 ·rw [List.getD_eq_getElem?_getD, List.getElem?_eq_none (by have := h.lx; omega)] at hg
  cases hg
theorem dlt (h : ListsV B W xs LL DS) : ∀ a i g, (dgV DS a i).ownBlock = some g → B ≤ g ∧ g < W.heap.size := fun a i g hg => by
 unfold dgV at hg
 by_cases ha : a < LL.length
 ·by_cases hi : i < (LL.getD a []).length
  ·exact ownB_lt ((h.each a ha).2 i hi) g hg
  ·rw [List.getD_eq_getElem?_getD (l := DS.getD a []), List.getElem?_eq_none (by rw [(h.each a ha).len]; omega)] at hg
   cases hg
 ·rw [List.getD_eq_getElem?_getD (l := DS), List.getElem?_eq_none (by have := h.ld; omega)] at hg
  simp at hg
  cases hg
theorem keep {b : Nat} (h : ListsV B W xs LL DS) (k : KB b W W') (hs : ∀ a g, (xs.getD a undef).ownBlock = some g → W'.heap[g]? = W.heap[g]?) : ListsV B W' xs LL DS :=
 ⟨h.lx, h.ld, fun a ha => (h.each a ha).keep k (hs a), h.ax, h.ad⟩
theorem below (h : ListsV B W xs LL DS) (hb : Below W.heap.size W W') : ListsV B W' xs LL DS :=
 h.keep (KB.of_below hb (Nat.zero_le _)) fun a g hg => hb.block g (h.xlt a g hg).2
theorem off {g : Nat} {c : Array Value} {T : TypeId} {fr : Nat × Nat} (h : ListsV B W xs LL DS) (hg : W.heap[g]? = some (.cells c T fr)) (h1 : T ≠ 24) (h2 : T ≠ 5) (hb : But g W W') : ListsV B W' xs LL DS :=
 h.keep (KB.of_but hb (Nat.zero_le _) (Nat.zero_le _) hg h2) fun a k hk => by
  refine hb.block k (h.xlt a k hk).2 ?_
  by_cases ha : a < LL.length
  ·exact own_off (h.each a ha).1 hg h1 k hk
  ·rw [List.getD_eq_getElem?_getD, List.getElem?_eq_none (by have := h.lx; omega)] at hk
   cases hk
theorem xoff {g : Nat} {c : Array Value} {T : TypeId} {fr : Nat × Nat} (h : ListsV B W xs LL DS) (hg : W.heap[g]? = some (.cells c T fr)) (h1 : T ≠ 24) : ∀ a k, (xs.getD a undef).ownBlock = some k → k ≠ g := fun a k hk => by
 by_cases ha : a < LL.length
 ·exact own_off (h.each a ha).1 hg h1 k hk
 ·rw [List.getD_eq_getElem?_getD, List.getElem?_eq_none (by have := h.lx; omega)] at hk
  cases hk
theorem nil (B : Nat) (W : World) : ListsV B W [] [] [] := ⟨rfl, rfl, (fun a ha => by simp at ha), (fun a b g _ hg => by rw [show ([] : List Value).getD a undef = undef from rfl] at hg; cases hg), (fun a i b j g _ hg => by rw [show dgV [] a i = undef from rfl] at hg; cases hg)⟩
theorem le {b : Nat} (h : ListsV B W xs LL DS) (hb : b ≤ B) : ListsV b W xs LL DS := ⟨h.lx, h.ld, fun a ha => ⟨ownsRow_le (h.each a ha).1 hb, fun j hj => ((h.each a ha).2 j hj).le hb⟩, h.ax, h.ad⟩
/-- An empty list more. -/
theorem more (h : ListsV B W xs LL DS) : ListsV B W (xs ++ [Value.slice none 0 0]) (LL ++ [[]]) (DS ++ [[]]) := by
 have hx : ∀ a, ((xs ++ [Value.slice none 0 0]).getD a undef).ownBlock = (xs.getD a undef).ownBlock := fun a => by
  rw [getD_snoc]
  split
  ·rfl
  ·rw [List.getD_eq_getElem?_getD, List.getElem?_eq_none (by omega)]
   split <;> rfl
 have hd : ∀ a, (DS ++ [[]]).getD a [] = DS.getD a [] := fun a => by
  rw [getD_snoc]
  split
  ·rfl
  ·rw [List.getD_eq_getElem?_getD, List.getElem?_eq_none (by omega)]
   split <;> rfl
 have hdg : ∀ a i, dgV (DS ++ [[]]) a i = dgV DS a i := fun a i => by unfold dgV; rw [hd]
 refine ⟨by simp [h.lx], by simp [h.ld], fun a ha => ?_, fun a b g hab hg => ?_, fun a i b j g hab hg => ?_⟩
 ·rw [hd, getD_snoc, getD_snoc]
  by_cases h1 : a < LL.length
  ·rw [if_pos h1, if_pos (by rw [h.lx]; exact h1)]
   exact h.each a h1
  ·have h2 : a = LL.length := by simp at ha; omega
   subst h2
   rw [if_neg h1, if_pos rfl, if_neg (by rw [h.lx]; exact h1), if_pos h.lx.symm, List.getD_eq_getElem?_getD, List.getElem?_eq_none (by have := h.ld; omega)]
   exact ⟨World.ownsRow_nil _ _ _ _, fun j hj => by simp at hj⟩
 ·rw [hx] at hg ⊢
  exact h.ax a b g hab hg
 ·rw [hdg] at hg ⊢
  exact h.ad a i b j g hab hg
/-- A digest more behind one of the lists. -/
theorem put {a : Nat} {v' x : Value} {z : List Int} (h : ListsV B W xs LL DS) (ha : a < LL.length) (hn : W'.ownsRow B 24 1 v' ((LL.getD a []).length + 1) (DS.getD a [] ++ [x])) (hz : OwnB B W x z) (hk : KB B W W') (hsp : Spare (fun k => (xs.getD a undef).ownBlock ≠ some k) W W')
  (hat : v'.ownBlock = (xs.getD a undef).ownBlock ∨ ∀ g, v'.ownBlock = some g → W.heap.size ≤ g) (hnew : ∀ g, x.ownBlock = some g → ∀ b j, (dgV DS b j).ownBlock ≠ some g) : ListsV B W' (xs.set a v') (LL.set a (LL.getD a [] ++ [z])) (DS.set a (DS.getD a [] ++ [x])) := by
 have hl := (h.each a ha).len
 have hax : a < xs.length := by rw [h.lx]; exact ha
 have had : a < DS.length := by rw [h.ld]; exact ha
 have hdg : ∀ b i, dgV (DS.set a (DS.getD a [] ++ [x])) b i = if a = b ∧ i = (DS.getD a []).length then x else dgV DS b i := fun b i => by
  unfold dgV
  rw [getD_set _ _ _ _ _ had]
  by_cases hab : a = b
  ·subst hab
   rw [if_pos rfl, getD_snoc]
   by_cases h1 : i < (DS.getD a []).length
   ·rw [if_pos h1, if_neg (fun e => by omega)]
   ·rw [if_neg h1]
    by_cases h2 : i = (DS.getD a []).length
    ·rw [if_pos h2, if_pos ⟨rfl, h2⟩]
    ·rw [if_neg h2, if_neg (fun e => h2 e.2), List.getD_eq_getElem?_getD (l := DS.getD a []), List.getElem?_eq_none (by omega)]; rfl
  ·rw [if_neg hab, if_neg (fun e => hab e.1)]
 refine ⟨by simp [h.lx], by simp [h.ld], fun b hb => ?_, fun b c g hbc hg => ?_, fun b i c j g hbc hg => ?_⟩
 ·rw [List.length_set] at hb
  rw [getD_set _ _ _ _ _ hax, getD_set _ _ _ _ _ ha, getD_set _ _ _ _ _ had]
  by_cases hab : a = b
  ·subst hab
   rw [if_pos rfl, if_pos rfl, if_pos rfl]
   refine ⟨by rw [List.length_append, List.length_singleton]; exact hn, fun j hj => ?_⟩
   rw [List.length_append, List.length_singleton] at hj
   unfold nthL
   rw [getD_snoc, getD_snoc, hl]
   by_cases h1 : j < (LL.getD a []).length
   ·rw [if_pos h1, if_pos h1]
    exact ((h.each a ha).2 j h1).kb hk
   ·rw [if_neg h1, if_neg h1, if_pos (by omega), if_pos (by omega)]
    exact hz.kb hk
  ·rw [if_neg hab, if_neg hab, if_neg hab]
   refine (h.each b hb).keep hk fun g hg => hsp.block g (h.xlt b g hg).2 fun e => h.ax a b g hab e hg
 ·have key : ∀ e g, ((xs.set a v').getD e undef).ownBlock = some g → (a = e ∧ v'.ownBlock = some g) ∨ (a ≠ e ∧ (xs.getD e undef).ownBlock = some g) := fun e g he => by
   rw [getD_set _ _ _ _ _ hax] at he
   by_cases hab : a = e
   ·rw [if_pos hab] at he; exact .inl ⟨hab, he⟩
   ·rw [if_neg hab] at he; exact .inr ⟨hab, he⟩
  intro hc
  rcases key b g hg with ⟨rfl, k1⟩ | ⟨k1, k2⟩ <;> rcases key c g hc with ⟨rfl, k3⟩ | ⟨k3, k4⟩
  ·exact hbc rfl
  ·rcases hat with hat | hat
   ·rw [hat] at k1; exact h.ax a c g k3 k1 k4
   ·have := hat g k1; have := (h.xlt c g k4).2; omega
  ·rcases hat with hat | hat
   ·rw [hat] at k3; exact h.ax a b g k1 k3 k2
   ·have := hat g k3; have := (h.xlt b g k2).2; omega
  ·exact h.ax b c g hbc k2 k4
 ·rw [hdg] at hg ⊢
  by_cases h1 : a = b ∧ i = (DS.getD a []).length
  ·rw [if_pos h1] at hg
   rw [if_neg (fun e => by rcases hbc with q | q; exact q (h1.1.symm.trans e.1); exact q (h1.2.trans e.2.symm))]
   exact hnew g hg c j
  ·rw [if_neg h1] at hg
   by_cases h2 : a = c ∧ j = (DS.getD a []).length
   ·rw [if_pos h2]
    exact fun e => hnew g e b i hg
   ·rw [if_neg h2]
    exact h.ad b i c j g hbc hg
end ListsV
theorem RowsV.formP {B : Nat} {w : World} {v : Value} {vs : List Value} {LL : List (List (List Int))} (h : RowsV B w v vs LL) : ∃ a c, v = .slice a LL.length c ∧ (LL.length : Int) ≤ 9223372036854775807 := by
 rcases h.1.2 with ⟨rfl, e⟩ | ⟨g, cap, cur, rfl, -, -, h3, h4, -⟩
 ·exact ⟨none, 0, by rw [e], by omega⟩
 ·exact ⟨_, _, rfl, by unfold maxLen at h4; omega⟩
theorem RowsV.getP {B i : Nat} {w : World} {lv : Value} {vs : List Value} {LL : List (List (List Int))} (h : RowsV B w lv vs LL) (hi : i < LL.length) : ∃ g cap, lv = .slice (some ⟨g, 0, none⟩) LL.length cap ∧ g < w.heap.size ∧ w.cell? ⟨g, i, none⟩ = some (vs.getD i undef) := by
 obtain ⟨g, cap, e, -, h2, h3⟩ := row_at h.1 (by omega)
 refine ⟨g, cap, e, h2, h3 i _ ?_⟩
 have := h.len
 rw [List.getD_eq_getElem?_getD, List.getElem?_eq_getElem (by omega)]; rfl
/-- A list of bytes behind a list: where it lies then. -/
theorem wpList_pushV {ops : Array Oper} {rest : List Oper} {o : Oper} {a : Act} {Q : Exit → Act → World → Prop} {W : World} (hgd : o.guard = none) (s x : Operand)
  (ho : o.op = .call { callee := .builtin .append, args := #[s, x], argTypes := #[47, 47] }) (B : Nat) (v : Value) (n : Nat) (ds : List Value) (u : Value) (hs : a.eval s = v) (hown : W.ownsRow B 24 1 v n ds) (hu : u.oneCell' = true)
  (hx : a.eval x = .slice (some ⟨W.heap.size, 0, none⟩) 1 1) (h63 : n ≤ 8388608) (hB : B ≤ W.heap.size)
  (h : ∀ v' w', w'.ownsRow B 24 1 v' (n + 1) (ds ++ [u]) → KB B W w' → Spare (fun k => v.ownBlock ≠ some k) W w' → (v'.ownBlock = v.ownBlock ∨ ∀ g, v'.ownBlock = some g → W.heap.size ≤ g) → wpList Try.prog ops Q rest (a.put o.dst v') w') : wpList Try.prog ops Q (o :: rest) a (W.alloc (.cells #[u] 24)) := by
 obtain ⟨ib, hib, hzb, hsb, hbb⟩ := info_parts info_bytes
 refine wpList_append_own_at _ hgd s x _ ho B 24 ib (.slice none 0 0) 1 24 Try.underlying47 hib hzb hsb hbb rfl (by decide) v n ds hs (hown.alloc _) ⟨W.heap.size, 0, none⟩ 1 1 [u] hx rfl (cell_one_new W u _) (by simpa using hu) (by unfold maxLen; omega) (by omega) (by simp; omega) fun v' w' h2 h3 _ h5 => ?_
 have hsp : Spare (fun k => v.ownBlock ≠ some k) W w' := (Spare.of_below _ ((Below.refl _ _).alloc (Nat.le_refl _) _)).trans (Spare.of_grown h3) (fun _ _ h => h)
 have hkb : KB B W w' := ⟨hsp.os, hsp.tape, hsp.output, hsp.size, fun k hk => hsp.block k (by omega) (fun e2 => by have := own_block_ge hown k e2; omega), fun k c hc => by
   rw [hsp.block k (Array.getElem?_eq_some_iff.1 hc).1 (fun e2 => ?_)]
   ·exact hc
   ·obtain ⟨c2, h8⟩ := own_block_at hown k e2
    rw [h8] at hc
    simp only [Option.some.injEq, Obj.cells.injEq] at hc
    exact absurd hc.2.1 (by decide)⟩
 refine h v' w' h2 hkb hsp ?_
 rcases h5 with h5 | h5
 ·exact .inl h5
 ·exact .inr fun g hg => by rw [h5] at hg; simp only [World.alloc, Array.size_push, Option.some.injEq] at hg; omega
end Go.Proofs.Ytahenngmaoellaa
