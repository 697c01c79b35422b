/- Lists of bytes in memory; all of them, one behind the other. No condition. -/
import Derived.Test.YtahenngmaoellaaN29
import Derived.Test.YtahenngmaoellaaN25
import Derived.Great.BuildSlice
import Derived.Test.YtahenngmaoellaaN05
import Derived.Laws.CopyOwn
import Derived.Test.YtahenngmaoellaaN27
import Derived.Test.YtahenngmaoellaaN24
import Derived.Test.YtahenngmaoellaaN20
import Derived.Test.YtahenngmaoellaaN17
import Derived.Test.YtahenngmaoellaaN21
import Derived.Test.YtahenngmaoellaaN04
import Derived.Maps.AppendAt
set_option linter.all false
set_option maxRecDepth 100000
set_option maxHeartbeats 8000000
namespace Go.Proofs.Ytahenngmaoellaa
open Go.ChangeShapes Go.WideShapes Go.ChangeAt Go.RowKit Go.Joins Go.Shelf Go.Maps
open Go.Lib (hid)
attribute [local go_sem] Oper.semAt_some
/-- The world grows; what lies below B, and all bytes, stay. -/
structure KB (B : Nat) (w w' : World) : Prop where
 os : w'.os = w.os
 tape : w'.tape = w.tape
 output : w'.output = w.output
 size : w.heap.size ≤ w'.heap.size
 block : ∀ k : Nat, k < B → w'.heap[k]? = w.heap[k]?
 bytes : ∀ (k : Nat) (c : Array Value), w.heap[k]? = some (.cells c 5 (0, 0)) → w'.heap[k]? = some (.cells c 5 (0, 0))
namespace KB
variable {B : Nat} {w w' w'' : World}
theorem refl (B : Nat) (w : World) : KB B w w := ⟨rfl, rfl, rfl, Nat.le_refl _, fun _ _ => rfl, fun _ _ h => h⟩
theorem trans (h : KB B w w') (k : KB B w' w'') : KB B w w'' := ⟨k.os.trans h.os, k.tape.trans h.tape, k.output.trans h.output, Nat.le_trans h.size k.size, fun j hj => (k.block j hj).trans (h.block j hj), fun j c hc => k.bytes j c (h.bytes j c hc)⟩
theorem of_below (h : Below w.heap.size w w') (hB : B ≤ w.heap.size) : KB B w w' := ⟨h.os, h.tape, h.output, h.size, fun k hk => h.block k (by omega), fun k c hc => (h.block k (Array.getElem?_eq_some_iff.1 hc).1).trans hc⟩
theorem of_but {g : Nat} {c : Array Value} {T : TypeId} {fr : Nat × Nat} (h : But g w w') (hB : B ≤ w.heap.size) (hg : B ≤ g) (hc : w.heap[g]? = some (.cells c T fr)) (hT : T ≠ 5) : KB B w w' :=
 ⟨h.os, h.tape, h.output, h.size, fun k hk => h.block k (by omega) (by omega), fun k c' hc' => by
  rw [h.block k (Array.getElem?_eq_some_iff.1 hc').1 ?_]; exact hc'
  rintro rfl
  rw [hc] at hc'
  simp only [Option.some.injEq, Obj.cells.injEq] at hc'
  exact hT hc'.2.1⟩
theorem below (h : KB B w w') : Below B w w' := ⟨h.os, h.tape, h.output, h.size, h.block⟩
end KB
theorem Fresh.kb {B b : Nat} {w w' : World} {x : Value} {z : List Int} (h : Fresh B w x z) (k : KB b w w') : Fresh B w' x z := by
 rcases h with h | ⟨g, cap, cur, e, h1, h2, h3⟩
 ·exact .inl h
 ·exact .inr ⟨g, cap, cur, e, h1, k.bytes _ _ h2, h3⟩
theorem fresh_of_own {B n : Nat} {w : World} {x : Value} {z : List Int} (h : w.ownsRow B 5 1 x n (z.map encB)) : Fresh B w x z := by
 have hl : z.length = n := by have := h.1; simpa using this
 rcases h.2 with ⟨rfl, h0⟩ | ⟨g, cap, cur, rfl, h1, h2, h3, h4, h5, h6⟩
 ·exact .inl ⟨List.eq_nil_of_length_eq_zero (by omega), rfl⟩
 ·exact .inr ⟨g, cap, cur, by rw [hl], h1, h2, by omega, by omega, h4, by rw [hl]; simpa using h6⟩
theorem own_kb {B b n : Nat} {w w' : World} {x : Value} {xs : List Value} (h : w.ownsRow B 5 1 x n xs) (k : KB b w w') : w'.ownsRow B 5 1 x n xs := by
 refine ⟨h.1, ?_⟩
 rcases h.2 with h2 | ⟨g, cap, cur, e, h1, h2, h3⟩
 ·exact .inl h2
 ·exact .inr ⟨g, cap, cur, e, h1, k.bytes _ _ h2, h3⟩
/-- Bytes of one's own. -/
def OwnB (B : Nat) (w : World) (x : Value) (z : List Int) : Prop := (∀ a ∈ z, 0 ≤ a ∧ a ≤ 255) ∧ Fresh B w x z
theorem OwnB.kb {B b : Nat} {w w' : World} {x : Value} {z : List Int} (h : OwnB B w x z) (k : KB b w w') : OwnB B w' x z := ⟨h.1, h.2.kb k⟩
theorem OwnB.hold {B : Nat} {w : World} {x : Value} {z : List Int} (h : OwnB B w x z) : Hold w x z := h.2.hold h.1
theorem OwnB.le {B b : Nat} {w : World} {x : Value} {z : List Int} (h : OwnB B w x z) (hb : b ≤ B) : OwnB b w x z := ⟨h.1, h.2.le hb⟩
theorem OwnB.one {B : Nat} {w : World} {x : Value} {z : List Int} (h : OwnB B w x z) : x.oneCell' = true := by
 rcases h.2 with ⟨-, rfl⟩ | ⟨g, cap, cur, rfl, -⟩ <;> rfl
/-- The i-th of a list of bytes. -/
def nthL (L : List (List Int)) (i : Nat) : List Int := L.getD i []
/-- A list of bytes of one's own: a row of one's own. -/
def ListO (B : Nat) (w : World) (v : Value) (L : List (List Int)) : Prop :=
 ∃ vs, w.ownsRow B 24 1 v L.length vs ∧ ∀ i, i < L.length → OwnB B w (vs.getD i undef) (nthL L i)
/-- A slice of slices of bytes that can be read. -/
def ListH (w : World) (v : Value) (L : List (List Int)) : Prop :=
 ∃ a cap, v = .slice a L.length cap ∧ L.length ≤ cap ∧ (cap : Int) ≤ 9223372036854775807 ∧ (L = [] ∨ ∃ g off, a = some ⟨g, off, none⟩ ∧ g < w.heap.size ∧ ∀ i, i < L.length → ∃ x, w.cell? ⟨g, off + i, none⟩ = some x ∧ Hold w x (nthL L i))
theorem ListO.hold {B : Nat} {w : World} {v : Value} {L : List (List Int)} (h : ListO B w v L) : ListH w v L := by
 obtain ⟨vs, ho, hx⟩ := h
 have hl : vs.length = L.length := by have := ho.1; simpa using this
 rcases ho.2 with ⟨rfl, h0⟩ | ⟨g, cap, cur, rfl, h1, h2, h3, h4, h5, h6⟩
 ·exact ⟨none, 0, by rw [h0], by omega, by omega, .inl (List.eq_nil_of_length_eq_zero h0)⟩
 ·refine ⟨_, cap, rfl, h3, by unfold maxLen at h4; omega, .inr ⟨g, 0, rfl, (Array.getElem?_eq_some_iff.1 h2).1, fun i hi => ⟨vs.getD i undef, ?_, (hx i hi).hold⟩⟩⟩
  rw [cell_of_heap h2 (0 + i), Nat.zero_add]
  have e : cur.toList[i]? = vs[i]? := by rw [← h6, List.getElem?_take, if_pos (by omega)]
  rw [← Array.getElem?_toList, e, List.getD_eq_getElem?_getD, List.getElem?_eq_getElem (by omega)]; rfl
theorem ListH.below {w w' : World} {v : Value} {L : List (List Int)} (h : ListH w v L) (hb : Below w.heap.size w w') : ListH w' v L := by
 obtain ⟨a, cap, rfl, h1, h2, h3⟩ := h
 refine ⟨a, cap, rfl, h1, h2, ?_⟩
 rcases h3 with h3 | ⟨g, off, rfl, h4, h5⟩
 ·exact .inl h3
 ·refine .inr ⟨g, off, rfl, Nat.lt_of_lt_of_le h4 hb.size, fun i hi => ?_⟩
  obtain ⟨x, h6, h7⟩ := h5 i hi
  exact ⟨x, (hb.cell (p := ⟨g, off + i, none⟩) h4).trans h6, h7.below hb⟩
theorem nthL_mem {L : List (List Int)} {i : Nat} (hi : i < L.length) : nthL L i ∈ L := by
 unfold nthL; rw [List.getD_eq_getElem?_getD, List.getElem?_eq_getElem hi]; exact List.getElem_mem hi
theorem take_flat {L : List (List Int)} {k : Nat} (hk : k < L.length) : (L.take (k + 1)).flatten = (L.take k).flatten ++ nthL L k := by
 have e : L.take (k + 1) = L.take k ++ [nthL L k] := by
  unfold nthL
  rw [List.take_succ, List.getD_eq_getElem?_getD, List.getElem?_eq_getElem hk]; rfl
 rw [e, List.flatten_append]; simp
theorem flat_take_le (L : List (List Int)) (k : Nat) : (L.take k).flatten.length ≤ L.flatten.length := by
 conv => rhs; rw [← List.take_append_drop k L, List.flatten_append, List.length_append]
 omega
theorem joined_ok (L : List (List Int)) (v : Value) (w : World) (h : ListH w v L) (hn : L.flatten.length ≤ 70368744177664) :
  Calls Try.prog 38 #[v] w fun e w' => ∃ u, e = .returned u ∧ w'.ownsRow w.heap.size 5 1 u L.flatten.length (L.flatten.map encB) ∧ Below w.heap.size w w' := by
 obtain ⟨i0, hi, hz0, hz1, hz2⟩ := info_parts info_u8
 obtain ⟨b0, hb0⟩ : ∃ b0, w.heap.size = b0 := ⟨_, rfl⟩
 have HH := hid h
 obtain ⟨a, cap, rfl, hc1, hc2, -⟩ := h
 have hn2 : (L.length : Int) ≤ 9223372036854775807 := by omega
 have HN := hid hn
 clear hn
 go_enter Try.func38, Try.ntmps38
 go_wp2_with fail
 go_loopw [3, 8] (fun s i wr => ∃ k : Nat, i = .int .i64 (k : Nat) ∧ k ≤ L.length ∧ wr.ownsRow b0 5 1 s (L.take k).flatten.length ((L.take k).flatten.map encB) ∧ Below b0 w wr) (fun _ i _ => L.length - (intOf i).toNat)
 case atStart => exact ⟨0, rfl, Nat.zero_le _, World.ownsRow_nil _ _ _ _, Below.refl _ _⟩
 case round =>
  obtain ⟨k, rfl, hk, ho, hb⟩ := hrel
  by_cases hlt : k < L.length
  case pos =>
   obtain ⟨a', cap', e, -, -, h3⟩ := HH.out
   obtain ⟨g, off, rfl, h4, h5⟩ := h3.resolve_left (fun e => by rw [e] at hlt; simp at hlt)
   simp only [Value.slice.injEq] at e
   obtain ⟨rfl, -, -⟩ := e
   obtain ⟨x, hx, hxh⟩ := h5 k hlt
   have c0 : wr.cell? ⟨g, off + k, none⟩ = some x := (hb.cell (p := ⟨g, off + k, none⟩) (show g < b0 by omega)).trans hx
   have hg0 : g < wr.heap.size := by have := hb.size; omega
   have HX := hid (hxh.below (hb0 ▸ hb)).src
   have HO := hid ho
   have HB := hid hb
   have hfl := flat_take_le L (k + 1)
   rw [take_flat hlt, List.length_append] at hfl
   have HF := hid hfl
   have hlt2 : (k : Int) < L.length := by omega
   clear hx hxh h5 h4 h3 ho hb hfl
   go_wp2_with (at_builtin; refine wpList_append_now rfl _ _ _ rfl w b0 hb0.symm HB.out 5 i0 (.int .u8 0) 1 Try.underlying24 hi hz0 hz1 hz2 rfl _ _ _ rfl HO.out _ _ _ rfl HX.out (by have := HF.out; have := HN.out; unfold maxLen; omega) (by have := HF.out; have := HN.out; omega) ?_; intro v' w' hown' hb')
   refine ⟨⟨k + 1, rfl, by omega, ?_, hb'⟩, by simp [intOf]; omega⟩
   rw [take_flat hlt, List.length_append, List.map_append]; exact hown'
  obtain rfl : k = L.length := by omega
  rw [List.take_length] at ho
  have HO := hid ho
  have HB := hid hb
  clear ho hb
  go_wp2
  go_ret
  exact ⟨_, rfl, hb0 ▸ HO.out, hb0 ▸ HB.out⟩
/-- One element more behind a row of one's own: nothing else of it, and no bytes, turn. -/
theorem wpList_push {P : Program} {ops : Array Oper} {rest : List Oper} {o : Oper} {a : Act} {Q : Exit → Act → World → Prop} {W : World} (hgd : o.guard = none) (s x : Operand) (t : TypeId)
  (ho : o.op = .call { callee := .builtin .append, args := #[s, x], argTypes := #[t, t] }) (B : Nat) (e : TypeId) (he : e ≠ 5) (i : TypeInfo) (z : Value) (size bytes : Nat) (ht : P.underlying t = some (.slice e)) (hi : P.info? e = some i) (hz : i.zero = some z)
  (hsize : i.size = size) (hby : i.bytes = bytes) (hzs : z.cells.size = size) (hsz : 0 < size) (v : Value) (n : Nat) (xs us : List Value) (T : TypeId) (hs : a.eval s = v) (hown : W.ownsRow B e size v n xs)
  (hx : a.eval x = .slice (some ⟨W.heap.size, 0, none⟩) 1 1) (hl : us.length = size) (h1 : ∀ u ∈ us, u.oneCell' = true) (h63 : n + 1 ≤ maxLen) (hbytes : (n + 1) * bytes ≤ 140737488355328) (hB : B ≤ W.heap.size)
  (h : ∀ v' w', w'.ownsRow B e size v' (n + 1) (xs ++ us) → KB B W w' → Spare (fun k => v.ownBlock ≠ some k) W w' → wpList P ops Q rest (a.put o.dst v') w') : wpList P ops Q (o :: rest) a (W.alloc (.cells us.toArray T)) := by
 refine wpList_append_own _ hgd s x t ho B e i z size bytes ht hi hz hsize hby hzs hsz v n xs hs (hown.alloc _) ⟨W.heap.size, 0, none⟩ 1 1 us hx (by omega) (fun j u hj => ?_) h1 h63 hbytes (by simp; omega) fun v' w' h2 h3 _ => ?_
 ·rw [Go.WideShapes.add_plain, cell_of_heap (World.alloc_heap_new W _) (0 + j), Nat.zero_add]
  simpa using hj
 have hsp : Spare (fun k => v.ownBlock ≠ some k) W w' := (Spare.of_below _ ((Below.refl _ _).alloc (Nat.le_refl _) _)).trans (Spare.of_grown h3) (fun _ _ h => h)
 refine h v' w' h2 ⟨hsp.os, hsp.tape, hsp.output, hsp.size, fun k hk => hsp.block k (by omega) (fun e2 => ?_), fun k c hc => ?_⟩ hsp
 ·rcases hown.2 with ⟨rfl, -⟩ | ⟨g, cap, cur, rfl, h4, -⟩
  ·cases e2
  ·simp only [Value.ownBlock, Option.some.injEq] at e2; omega
 ·rw [hsp.block k (Array.getElem?_eq_some_iff.1 hc).1 (fun e2 => ?_)]
  ·exact hc
  ·rcases hown.2 with ⟨rfl, -⟩ | ⟨g, cap, cur, rfl, -, h5, -⟩
   ·cases e2
   ·simp only [Value.ownBlock, Option.some.injEq] at e2
    subst e2
    rw [h5] at hc
    simp only [Option.some.injEq, Obj.cells.injEq] at hc
    exact he hc.2.1
theorem ListO.nil (B : Nat) (w : World) : ListO B w (.slice none 0 0) [] := ⟨[], World.ownsRow_nil _ _ _ _, fun i hi => by simp at hi⟩
theorem ListO.kb {B b : Nat} {w w' : World} {v : Value} {L : List (List Int)} (h : ListO B w v L) (k : KB b w w') (hs : ∀ g, v.ownBlock = some g → w'.heap[g]? = w.heap[g]?) : ListO B w' v L := by
 obtain ⟨vs, ho, hx⟩ := h
 refine ⟨vs, ⟨ho.1, ?_⟩, fun i hi => (hx i hi).kb k⟩
 rcases ho.2 with h2 | ⟨g, cap, cur, rfl, h1, h2, h3⟩
 ·exact .inl h2
 ·exact .inr ⟨g, cap, cur, rfl, h1, (hs g rfl).trans h2, h3⟩
theorem ListO.below {B : Nat} {w w' : World} {v : Value} {L : List (List Int)} (h : ListO B w v L) (k : Below w.heap.size w w') : ListO B w' v L := by
 refine h.kb (KB.of_below k (Nat.zero_le _)) fun g hg => ?_
 obtain ⟨vs, ho, -⟩ := h
 rcases ho.2 with ⟨rfl, -⟩ | ⟨g', cap, cur, rfl, -, h2, -⟩
 ·cases hg
 ·simp only [Value.ownBlock, Option.some.injEq] at hg; subst hg
  exact k.block _ (Array.getElem?_eq_some_iff.1 h2).1
theorem ListO.le {B b : Nat} {w : World} {v : Value} {L : List (List Int)} (h : ListO B w v L) (hb : b ≤ B) : ListO b w v L := by
 obtain ⟨vs, ho, hx⟩ := h
 exact ⟨vs, ownsRow_le ho hb, fun i hi => (hx i hi).le hb⟩
/-- One list more. -/
theorem ListO.snoc {B : Nat} {w w' : World} {v' x : Value} {L : List (List Int)} {z : List Int} {vs : List Value} (hx : ∀ i, i < L.length → OwnB B w (vs.getD i undef) (nthL L i)) (hl : vs.length = L.length) (hz : OwnB B w x z)
  (ho : w'.ownsRow B 24 1 v' (L.length + 1) (vs ++ [x])) (hk : KB B w w') : ListO B w' v' (L ++ [z]) := by
 refine ⟨vs ++ [x], by simpa using ho, fun i hi => ?_⟩
 simp only [List.length_append, List.length_singleton] at hi
 by_cases h : i < L.length
 ·have e1 : (vs ++ [x]).getD i undef = vs.getD i undef := by simp [List.getD_eq_getElem?_getD, List.getElem?_append_left (show i < vs.length by omega)]
  have e2 : nthL (L ++ [z]) i = nthL L i := by simp [nthL, List.getD_eq_getElem?_getD, List.getElem?_append_left h]
  rw [e1, e2]; exact (hx i h).kb hk
 ·obtain rfl : i = L.length := by omega
  have e1 : (vs ++ [x]).getD L.length undef = x := by simp [List.getD_eq_getElem?_getD, ← hl]
  have e2 : nthL (L ++ [z]) L.length = z := by simp [nthL, List.getD_eq_getElem?_getD]
  rw [e1, e2]; exact hz.kb hk
theorem info_bytes : (Try.prog.info? 24).map (fun i => (i.zero, i.size, i.bytes)) = some (some (.slice none 0 0), 1, 24) := by kernel_rfl
theorem wpList_build1 {ops : Array Oper} {rest : List Oper} {o : Oper} {act : Act} {w : World} {Q : Exit → Act → World → Prop} (hg : o.guard = none) (x : Operand) (ho : o.op = .buildSlice 47 1 #[(0, x)]) (a : Option Addr) (n k : Nat) (hx : act.eval x = .slice a n k)
  (h : wpList Try.prog ops Q rest (act.put o.dst (.slice (some ⟨w.heap.size, 0, none⟩) 1 1)) (w.alloc (.cells #[.slice a n k] 24))) : wpList Try.prog ops Q (o :: rest) act w := by
 obtain ⟨ib, hib, hzb, hsb, -⟩ := info_parts info_bytes
 exact wpList_buildSlice hg 47 24 1 _ ho #[.slice a n k] ib _ Try.underlying47 hib hzb (by rw [hsb]; decide) (by rw [hsb]; decide) (by rw [hsb, show Array.range (1 * 1) = #[0] by decide]; simp [hx, Instr.fill, Value.cells]) h
end Go.Proofs.Ytahenngmaoellaa
namespace Go.Proofs.Ytahenngmaoellaa
open Go.ChangeShapes Go.WideShapes Go.ChangeAt Go.RowKit Go.Joins Go.Shelf Go.Maps
open Go.Lib (hid)
theorem lt_cdiv {n d j : Nat} (hd : 1 ≤ d) : j < cdiv n d ↔ j * d < n := by
 have h1 := Nat.div_add_mod n d
 have h2 := Nat.mod_lt n (show 0 < d by omega)
 unfold cdiv
 split
 ·rename_i h0
  rw [h0, Nat.add_zero] at h1
  conv => rhs; rw [← h1, Nat.mul_comm]
  exact (Nat.mul_lt_mul_left (show 0 < d by omega)).symm
 ·constructor
  ·intro h
   have h3 : j * d ≤ (n / d) * d := Nat.mul_le_mul_right d (by omega)
   rw [Nat.mul_comm (n / d) d] at h3
   omega
  ·intro h
   have h3 : j * d < (n / d + 1) * d := by rw [Nat.add_mul, Nat.one_mul, Nat.mul_comm (n / d) d]; omega
   exact Nat.lt_of_mul_lt_mul_right h3
/-- A list in pieces of n. -/
def piece {α : Type} (n : Nat) (L : List α) (i : Nat) : List α := (L.drop (i * n)).take n
def pieces {α : Type} (n : Nat) (L : List α) (m : Nat) : List (List α) := (List.range m).map (piece n L)
theorem pieces_succ {α : Type} (n : Nat) (L : List α) (m : Nat) : pieces n L (m + 1) = pieces n L m ++ [piece n L m] := by simp [pieces, List.range_succ]
theorem pieces_length {α : Type} (n : Nat) (L : List α) (m : Nat) : (pieces n L m).length = m := by simp [pieces]
/-- The leaves' data. -/
def cutZ (n : Nat) (zs : List Int) : List (List Int) := if zs = [] then [[]] else pieces n zs (cdiv zs.length n)
/-- A row's data, out of the outputs below. -/
def flats (f : Nat) (L : List (List Int)) (m : Nat) : List (List Int) := (List.range m).map fun i => (piece f L i).flatten
theorem flats_succ (f : Nat) (L : List (List Int)) (m : Nat) : flats f L (m + 1) = flats f L m ++ [(piece f L m).flatten] := by simp [flats, List.range_succ]
theorem flats_length (f : Nat) (L : List (List Int)) (m : Nat) : (flats f L m).length = m := by simp [flats]
def TreeV.rootZ (t : TreeV) (row n : Nat) : Bool := decide (t.f = 0 ∨ (row : Int) = t.p - 1 ∨ (n : Int) ≤ t.f)
def TreeV.upZ (t : TreeV) (row : Nat) (L : List (List Int)) : List (List Int) := if t.rootZ row L.length then [L.flatten] else flats t.fn L (cdiv L.length t.fn)
theorem flatten_le_of_sub {L M : List (List Int)} (h : M.Sublist L) : M.flatten.length ≤ L.flatten.length := by
 induction h with
 | slnil => exact Nat.le_refl _
 | cons a _ ih => simp only [List.flatten_cons, List.length_append]; omega
 | cons_cons a _ ih => simp only [List.flatten_cons, List.length_append]; omega
theorem piece_sub {α : Type} (n : Nat) (L : List α) (i : Nat) : (piece n L i).Sublist L := (List.take_sublist _ _).trans (List.drop_sublist _ _)
theorem nthL_drop (L : List (List Int)) (k i : Nat) : nthL (L.drop k) i = nthL L (k + i) := by simp [nthL, List.getD_eq_getElem?_getD, List.getElem?_drop]
theorem nthL_take {L : List (List Int)} {k i : Nat} (h : i < k) : nthL (L.take k) i = nthL L i := by simp [nthL, List.getD_eq_getElem?_getD, List.getElem?_take, h]
theorem ListH.take {w : World} {a : Option Addr} {n c k : Nat} {L : List (List Int)} (h : ListH w (.slice a n c) L) (hk : k ≤ L.length) : ListH w (.slice a k k) (L.take k) := by
 obtain ⟨a', c', e, h1, h2, h3⟩ := h
 simp only [Value.slice.injEq] at e
 obtain ⟨rfl, -, rfl⟩ := e
 have hl : (L.take k).length = k := by simp; omega
 refine ⟨a, k, by rw [hl], by omega, by omega, ?_⟩
 by_cases h0 : L.take k = []
 ·exact .inl h0
 rcases h3 with h3 | ⟨g, off, rfl, h4, h5⟩
 ·rw [h3] at h0; simp at h0
 ·refine .inr ⟨g, off, rfl, h4, fun i hi => ?_⟩
  obtain ⟨x, h6, h7⟩ := h5 i (by omega)
  exact ⟨x, h6, by rw [nthL_take (by omega)]; exact h7⟩
theorem ListH.drop {w : World} {a a' : Option Addr} {n c k n' c' : Nat} {L : List (List Int)} (h : ListH w (.slice a n c) L) (hk : k ≤ L.length) (hn : n' = L.length - k) (hc : c' = c - k) (g off : Nat) (ha : a = some ⟨g, off, none⟩) (ha' : a' = some ⟨g, off + k, none⟩ ∨ a' = some ⟨g, off, none⟩ ∧ c ≤ k) : ListH w (.slice a' n' c') (L.drop k) := by
 subst ha
 obtain ⟨a1, c1, e, h1, h2, h3⟩ := h
 simp only [Value.slice.injEq] at e
 obtain ⟨rfl, -, rfl⟩ := e
 refine ⟨a', c', by simp [hn], by simp; omega, by omega, ?_⟩
 by_cases h0 : L.drop k = []
 ·exact .inl h0
 have hlt : k < L.length := Nat.lt_of_not_le fun h4 => h0 (List.drop_eq_nil_of_le h4)
 rcases ha' with rfl | ⟨-, h4⟩
 ·rcases h3 with h3 | ⟨g', off', e, h4, h5⟩
  ·rw [h3] at hlt; simp at hlt
  ·simp only [Option.some.injEq, Addr.mk.injEq, and_true] at e
   obtain ⟨rfl, rfl⟩ := e
   refine .inr ⟨g, off + k, rfl, h4, fun i hi => ?_⟩
   obtain ⟨x, h6, h7⟩ := h5 (k + i) (by simp at hi; omega)
   exact ⟨x, by rw [Nat.add_assoc]; exact h6, by rw [nthL_drop]; exact h7⟩
 ·omega
end Go.Proofs.Ytahenngmaoellaa
namespace Go.Proofs.Ytahenngmaoellaa
open Go.ChangeShapes Go.WideShapes Go.ChangeAt Go.RowKit Go.Joins Go.Shelf Go.Maps
open Go.Lib (hid)
attribute [local go_sem] Oper.semAt_some
theorem listO_one {B : Nat} {w : World} {x : Value} {z : List Int} (hx : OwnB B w x z) (hB : B ≤ w.heap.size) : ListO B (w.alloc (.cells #[x] 24)) (.slice (some ⟨w.heap.size, 0, none⟩) 1 1) [z] := by
 refine ⟨[x], ⟨rfl, .inr ⟨w.heap.size, 1, #[x], rfl, hB, World.alloc_heap_new w _, Nat.le_refl _, by unfold maxLen; omega, rfl, rfl⟩⟩, fun i hi => ?_⟩
 obtain rfl : i = 0 := by simpa using hi
 exact hx.kb (KB.of_below ((Below.refl _ _).alloc (Nat.le_refl _) _) hB)
theorem bytes_flat {L : List (List Int)} (h : ∀ z ∈ L, ∀ a ∈ z, 0 ≤ a ∧ a ≤ 255) : ∀ a ∈ L.flatten, 0 ≤ a ∧ a ≤ 255 := fun a ha => by
 obtain ⟨z, hz, ha⟩ := List.mem_flatten.1 ha
 exact h z hz a ha
theorem ListH.bytes {w : World} {v : Value} {L : List (List Int)} (h : ListH w v L) : ∀ z ∈ L, ∀ a ∈ z, 0 ≤ a ∧ a ≤ 255 := fun z hz a ha => by
 obtain ⟨a', cap, -, -, -, h3⟩ := h
 rcases h3 with rfl | ⟨g, off, -, -, h5⟩
 ·cases hz
 ·obtain ⟨i, hi, rfl⟩ := List.mem_iff_getElem.1 hz
  obtain ⟨x, -, h7⟩ := h5 i hi
  have e : nthL L i = L[i] := by unfold nthL; rw [List.getD_eq_getElem?_getD, List.getElem?_eq_getElem hi]; rfl
  rw [e] at h7
  exact h7.1 a ha
theorem ownB_of_own {B n : Nat} {w : World} {x : Value} {z : List Int} (hz : ∀ a ∈ z, 0 ≤ a ∧ a ≤ 255) (h : w.ownsRow B 5 1 x n (z.map encB)) : OwnB B w x z := ⟨hz, fresh_of_own h⟩
theorem above_ok (t : TreeV) (h : t.validE = 0) (row : Nat) (hr : row ≤ 255) (L : List (List Int)) (v : Value) (w : World) (hL : ListH w v L) (hn : L.flatten.length ≤ 1073741824) (hn2 : L.length ≤ 16777216) (hne : L ≠ []) :
  Calls Try.prog 27 #[t.val, .int .i64 (row : Nat), v] w fun e w' => ∃ u, e = .returned (.tuple #[u, .bool (t.rootZ row L.length)]) ∧ ListO w.heap.size w' u (t.upZ row L) ∧ Below w.heap.size w w' := by
 obtain ⟨b0, hb0⟩ : ∃ b0, w.heap.size = b0 := ⟨_, rfl⟩
 have hvf := TreeV.valid_facts h
 have hf1 := hvf.2.2.2.2.2.1
 have hp1 : 2 ≤ t.p ∧ t.p ≤ 255 := ⟨hvf.2.2.2.2.2.2.1, hvf.2.2.2.2.2.2.2.1⟩
 have hroot : t.rootZ row L.length = decide (t.f = 0 ∨ (row : Int) = t.p - 1 ∨ (L.length : Int) ≤ t.f) := rfl
 have hup : t.upZ row L = if t.rootZ row L.length then [L.flatten] else flats t.fn L (cdiv L.length t.fn) := rfl
 have hfn : (t.fn : Int) = t.f := by unfold TreeV.fn; omega
 generalize t.upZ row L = U at *
 generalize t.rootZ row L.length = rt at *
 generalize t.fn = fn at *
 obtain ⟨k, d, f, p, l, i, ka, kl, kc, sa, sl, sc, pa, pl, pc⟩ := t
 unfold TreeV.val
 simp only at *
 clear hvf h
 have hlp : 0 < L.length := List.length_pos_iff.2 hne
 have HL := hid hL
 have HBY := hid hL.bytes
 have HN := hid hn
 have HUP := hid hup
 obtain ⟨a, cap, rfl, hc1, hc2, -⟩ := hL
 clear hup hne hn
 have hbA : Below b0 w (w.alloc (.cells #[.int .i64 k, .int .i64 d, .int .i64 f, .int .i64 p, .int .u32 l, .int .i64 i, .slice ka kl kc, .slice sa sl sc, .slice pa pl pc] 26)) := by rw [← hb0]; exact (Below.refl _ _).alloc (Nat.le_refl _) _
 have hrA := World.alloc_heap_new w (.cells #[.int .i64 k, .int .i64 d, .int .i64 f, .int .i64 p, .int .u32 l, .int .i64 i, .slice ka kl kc, .slice sa sl sc, .slice pa pl pc] 26)
 rw [hb0] at hrA
 go_enter Try.func27, Try.ntmps27
 go_upto_region 1 with (fail)
 generalize w.alloc (.cells #[.int .i64 k, .int .i64 d, .int .i64 f, .int .i64 p, .int .u32 l, .int .i64 i, .slice ka kl kc, .slice sa sl sc, .slice pa pl pc] 26) = wA at *
 have c2 : wA.cell? ⟨b0, 2, none⟩ = some (.int .i64 f) := cell_of_heap hrA 2
 have c3 : wA.cell? ⟨b0, 3, none⟩ = some (.int .i64 p) := cell_of_heap hrA 3
 have hbs : b0 < wA.heap.size := (Array.getElem?_eq_some_iff.1 hrA).1
 have HRA := hid hrA
 have HBA := hid hbA
 clear hrA hbA
 go_cut [2, 3, 26] from 1 (fun x y u W => x = .slice a L.length cap ∧ y = .pointer (some ⟨b0, 0, none⟩) ∧ u = .bool rt ∧ wA = W)
 case first =>
  by_cases h1 : f = 0
  case pos =>
   obtain rfl : rt = true := by rw [hroot]; exact decide_eq_true (.inl h1)
   have q1 : (f == 0) = true := by rw [beq_iff_eq]; exact h1
   clear hroot
   subst h1
   go_wp2
   go_meet
   case rel => exact ⟨rfl, rfl, rfl, by trivial⟩
  by_cases h2 : (row : Int) = p - 1
  case pos =>
   obtain rfl : rt = true := by rw [hroot]; exact decide_eq_true (.inr (.inl h2))
   clear hroot
   go_wp2
   go_meet
   case rel => exact ⟨rfl, rfl, rfl, by trivial⟩
  by_cases h3 : (L.length : Int) ≤ f
  case pos =>
   obtain rfl : rt = true := by rw [hroot]; exact decide_eq_true (.inr (.inr h3))
   clear hroot
   go_wp2
   go_meet
   case rel => exact ⟨rfl, rfl, rfl, by trivial⟩
  obtain rfl : rt = false := by rw [hroot]; exact decide_eq_false (by rintro (h | h | h); exact h1 h; exact h2 h; exact h3 h)
  clear hroot
  go_wp2
  go_meet
  case rel => exact ⟨rfl, rfl, by simp [h1, h2], by trivial⟩
 case rest =>
  obtain ⟨rfl, rfl, rfl, rfl⟩ := hcut
  clear c3
  have hLA := HL.out.below (hb0 ▸ HBA.out)
  obtain ⟨ib, hib, hzb, hsb, hbb⟩ := info_parts info_bytes
  cases rt
  case true =>
   go_wp2_with fail
   refine (joined_ok L _ _ hLA (by have := HN.out; omega)).mono ?_; rintro e w2 ⟨u, rfl, ho, hb⟩
   have hO := ownB_of_own (bytes_flat HBY.out) ho
   have hB := HBA.out.trans (hb.mono (by omega))
   have HO := hid (listO_one (hO.le (show b0 ≤ wA.heap.size by omega)) (by have := hb.size; omega))
   have HB2 := hid (hB.alloc (by have := hb.size; omega) (.cells #[u] 24))
   have hu := hO.one
   obtain ⟨a6, n6, k6, rfl⟩ := own_slice ho
   clear ho hb hO hB hu
   go_wp2_with ((with_reducible show wpList _ _ _ (Oper.mk _ (Op.buildSlice _ _ _) _ _ _ _ :: _) _ _); refine wpList_build1 rfl _ rfl _ _ _ rfl ?_)
   go_ret2
   exact ⟨_, rfl, by rw [hb0, HUP.out, if_pos trivial]; exact HO.out, by rw [hb0]; exact HB2.out⟩
  case false =>
   have hnr : ¬ (f = 0 ∨ (row : Int) = p - 1 ∨ (L.length : Int) ≤ f) := of_decide_eq_false hroot.symm
   have hf2 : 2 ≤ f ∧ f ≤ 255 ∧ f < L.length := by omega
   have HUP2 := hid (show U = flats fn L (cdiv L.length fn) from HUP.out.trans (if_neg (by simp)))
   clear hroot hf1 hnr HUP
   subst hfn
   go_wp2_with fail
   go_loopw [2, 8] (fun x s wr => ∃ j : Nat, j ≤ cdiv L.length fn ∧ ListH w x (L.drop (j * fn)) ∧ ListO (b0 + 1) wr s (flats fn L j) ∧ Below b0 w wr ∧ wr.heap[b0]? = some (.cells #[.int .i64 k, .int .i64 d, .int .i64 (fn : Int), .int .i64 p, .int .u32 l, .int .i64 i, .slice ka kl kc, .slice sa sl sc, .slice pa pl pc] 26 (0, 0))) (fun x _ _ => lenV x)
   case atStart => exact ⟨0, Nat.zero_le _, by rw [Nat.zero_mul]; exact HL.out, ListO.nil _ _, HBA.out, HRA.out⟩
   case round =>
    obtain ⟨j, hj, hx, ho, hb, hrT⟩ := hrel
    have c2 : wr.cell? ⟨b0, 2, none⟩ = some (.int .i64 (fn : Int)) := cell_of_heap hrT 2
    have hbs : b0 < wr.heap.size := (Array.getElem?_eq_some_iff.1 hrT).1
    have HRT := hid hrT
    clear hrT
    have hd1 : 1 ≤ fn := by omega
    obtain ⟨a1, cp, rfl, hx1, hx2, -⟩ := id hx
    have HX := hid hx
    have HO := hid ho
    have HB := hid hb
    have hdl : (L.drop (j * fn)).length = L.length - j * fn := by simp
    obtain ⟨m, hm⟩ : ∃ m, (L.drop (j * fn)).length = m := ⟨_, rfl⟩
    rw [hm] at hx1 hdl ⊢
    have HDL := hid hdl
    clear hx ho hb hdl
    by_cases hlt : 0 < m
    case pos =>
     have hj2 : j < cdiv L.length fn := (lt_cdiv hd1).2 (by have := HDL.out; omega)
     obtain ⟨k, hk⟩ : ∃ k, min fn m = k := ⟨_, rfl⟩
     have HK := hid hk
     have hkm : 1 ≤ k ∧ k ≤ m ∧ k ≤ cp := by omega
     have hmi : min (fn : Int) (m : Int) = (k : Int) := by omega
     have hm2 : 0 < (m : Int) := by omega
     clear hk
     obtain ⟨g, off, rfl, hgs, -⟩ : ∃ g off, a1 = some ⟨g, off, none⟩ ∧ g < w.heap.size ∧ True := by
      obtain ⟨a', c', e, -, -, h3⟩ := HX.out
      rcases h3 with h3 | ⟨g, off, rfl, h4, -⟩
      ·rw [h3] at hm; simp at hm; omega
      ·simp only [Value.slice.injEq] at e; exact ⟨g, off, e.1, h4, trivial⟩
     have hpk : piece fn L j = (L.drop (j * fn)).take k := by
      unfold piece
      by_cases h : fn ≤ m
      ·rw [show k = fn by have := HK.out; omega]
      ·rw [show k = m by have := HK.out; omega, List.take_of_length_le (by omega), List.take_of_length_le (by omega)]
     have HPK := hid hpk
     have HTK := hid ((ListH.take HX.out (k := k) (by omega)).below (hb0 ▸ HB.out))
     have hfl := Nat.le_trans (flatten_le_of_sub (piece_sub fn L j)) HN.out
     rw [hpk] at hfl
     have HFL := hid hfl
     have hkc : (k : Int) ≤ (cp : Int) ∧ (k : Int) ≤ (m : Int) ∧ 0 ≤ (k : Int) := by omega
     obtain ⟨hkc1, hkc2, hkc3⟩ := hkc
     obtain ⟨vs, hvo, hvx⟩ := HO.out
     have hvl : vs.length = j := by have := hvo.1; rw [flats_length] at this; omega
     rw [flats_length] at hvo hvx
     have HVX := hid hvx
     obtain ⟨a8, n8, k8, rfl⟩ := own_slice hvo
     have HVO := hid hvo
     have hj3 : j + 1 ≤ 16777217 := by have := cdiv_le (n := L.length) hd1; omega
     clear hpk hfl hvo hvx
     have HM := hid hm
     have hb2s : b0 + 1 ≤ wr.heap.size := by omega
     have HBY2 := hid (show ∀ z ∈ (L.drop (j * fn)).take k, ∀ a ∈ z, 0 ≤ a ∧ a ≤ 255 from fun z hz => HBY.out z (List.mem_of_mem_drop (List.mem_of_mem_take hz)))
     have hlk : ((L.drop (j * fn)).take k).length = k := by rw [List.length_take]; omega
     clear hm
     by_cases hck : k = cp
     case pos =>
      subst hck
      go_wp2_with fail
      refine (joined_ok ((L.drop (j * fn)).take k) _ _ HTK.out (by have := HFL.out; omega)).mono ?_; rintro e w2 ⟨u, rfl, ho2, hb2⟩
      have hO := ownB_of_own (bytes_flat HBY2.out) ho2
      have HO2 := hid (hO.le hb2s)
      have hs2 := hb2.size
      have HK2 := hid (KB.of_below hb2 hb2s)
      have HV2 := hid (show w2.ownsRow (b0 + 1) 24 1 (.slice a8 n8 k8) j vs from ownsRow_same' HVO.out (fun g _ g2 => hb2.block g g2))
      obtain ⟨a6, n6, k6, rfl⟩ := own_slice ho2
      have HB2 := hid hb2
      clear ho2 hb2 hO
      go_wp2_with (first | ((with_reducible show wpList _ _ _ (Oper.mk _ (Op.buildSlice _ _ _) _ _ _ _ :: _) _ _); refine wpList_build1 rfl _ rfl _ _ _ rfl ?_) | (at_builtin; refine wpList_push rfl _ _ _ rfl (b0 + 1) 24 (by decide) ib (.slice none 0 0) 1 24 Try.underlying47 hib hzb hsb hbb rfl (by decide) (.slice a8 n8 k8) j vs [.slice a6 n6 k6] _ rfl HV2.out rfl rfl (by simp [Value.oneCell']) (by unfold maxLen; omega) (by omega) (by omega) ?_; intro v' w' hown' hkb' hsp'))
      have hmk : m = k := by omega
      have hd0 : (L.drop (j * fn)).drop k = L.drop ((j + 1) * fn) := by
       rw [List.drop_drop, Nat.add_mul, Nat.one_mul, List.drop_eq_nil_of_le (by have := HDL.out; omega), List.drop_eq_nil_of_le (by have := HDL.out; have := HK.out; omega)]
      refine ⟨⟨j + 1, by omega, ?_, ?_, HB.out.trans ((HB2.out.mono (by omega)).trans (hkb'.below.mono (by omega))), (hkb'.block b0 (by omega)).trans (rowStay HRT.out HB2.out)⟩, by simp [lenV]; omega⟩
      ·rw [← hd0]; exact ListH.drop HX.out (by have := HM.out; omega) (by have := HM.out; omega) (by omega) g off rfl (.inr ⟨rfl, Nat.le_refl _⟩)
      ·rw [flats_succ]
       refine ListO.snoc (w := w2) (vs := vs) (x := .slice a6 n6 k6) (fun i hi => ?_) (by rw [flats_length]; exact hvl) (by rw [HPK.out]; exact HO2.out) (by rw [flats_length]; exact hown') hkb'
       rw [flats_length] at hi
       exact (HVX.out i hi).kb HK2.out
     go_wp2_with fail
     refine (joined_ok ((L.drop (j * fn)).take k) _ _ HTK.out (by have := HFL.out; omega)).mono ?_; rintro e w2 ⟨u, rfl, ho2, hb2⟩
     have hO := ownB_of_own (bytes_flat HBY2.out) ho2
     have HO2 := hid (hO.le hb2s)
     have hs2 := hb2.size
     have HK2 := hid (KB.of_below hb2 hb2s)
     have HV2 := hid (show w2.ownsRow (b0 + 1) 24 1 (.slice a8 n8 k8) j vs from ownsRow_same' HVO.out (fun g _ g2 => hb2.block g g2))
     obtain ⟨a6, n6, k6, rfl⟩ := own_slice ho2
     have HB2 := hid hb2
     clear ho2 hb2 hO
     go_wp2_with (first | ((with_reducible show wpList _ _ _ (Oper.mk _ (Op.buildSlice _ _ _) _ _ _ _ :: _) _ _); refine wpList_build1 rfl _ rfl _ _ _ rfl ?_) | (at_builtin; refine wpList_push rfl _ _ _ rfl (b0 + 1) 24 (by decide) ib (.slice none 0 0) 1 24 Try.underlying47 hib hzb hsb hbb rfl (by decide) (.slice a8 n8 k8) j vs [.slice a6 n6 k6] _ rfl HV2.out rfl rfl (by simp [Value.oneCell']) (by unfold maxLen; omega) (by omega) (by omega) ?_; intro v' w' hown' hkb' hsp'))
     have hd0 : (L.drop (j * fn)).drop k = L.drop ((j + 1) * fn) := by
      rw [List.drop_drop, Nat.add_mul, Nat.one_mul]
      by_cases h : fn ≤ m
      ·rw [show k = fn by have := HK.out; omega]
      ·rw [List.drop_eq_nil_of_le (by have := HDL.out; have := HK.out; omega), List.drop_eq_nil_of_le (by have := HDL.out; have := HK.out; omega)]
     refine ⟨⟨j + 1, by omega, ?_, ?_, HB.out.trans ((HB2.out.mono (by omega)).trans (hkb'.below.mono (by omega))), (hkb'.block b0 (by omega)).trans (rowStay HRT.out HB2.out)⟩, by simp [lenV]; omega⟩
     ·rw [← hd0]; exact ListH.drop HX.out (by have := HM.out; omega) (by have := HM.out; omega) (by omega) g off rfl (.inl rfl)
     ·rw [flats_succ]
      refine ListO.snoc (w := w2) (vs := vs) (x := .slice a6 n6 k6) (fun i hi => ?_) (by rw [flats_length]; exact hvl) (by rw [HPK.out]; exact HO2.out) (by rw [flats_length]; exact hown') hkb'
      rw [flats_length] at hi
      exact (HVX.out i hi).kb HK2.out
    have hm0 : m = 0 := by omega
    have hjc : cdiv L.length fn ≤ j := Nat.le_of_not_lt fun h => by
     have := (lt_cdiv hd1).1 h
     have := HDL.out
     omega
    obtain rfl : j = cdiv L.length fn := by omega
    subst hm0
    clear hm
    have HOr := hid (HO.out.le (show b0 ≤ b0 + 1 by omega))
    go_wp2
    go_ret2
    exact ⟨_, rfl, by rw [hb0, HUP2.out]; exact HOr.out, by rw [hb0]; exact HB.out⟩
theorem cut_ok (t : TreeV) (h : t.validE = 0) (hl : 0 ≤ t.l ∧ t.l ≤ 4294967295) (zs : List Int) (v : Value) (w : World) (hv : Hold w v zs) (hn : zs.length ≤ 16777216) :
  Calls Try.prog 15 #[t.val, v] w fun e w' => ∃ u, e = .returned u ∧ ListO w.heap.size w' u (cutZ t.ln zs) ∧ Below w.heap.size w w' := by
 obtain ⟨b0, hb0⟩ : ∃ b0, w.heap.size = b0 := ⟨_, rfl⟩
 have hvf := TreeV.valid_facts h
 have hl0 : t.l ≠ 0 := hvf.2.2.2.2.2.2.2.2.1
 have hln : (t.ln : Int) = t.l := by unfold TreeV.ln; omega
 have hd1 : 1 ≤ t.ln := by omega
 have hln2 : (t.ln : Int) ≤ 4294967295 := by omega
 generalize t.ln = ln at *
 obtain ⟨k, d, f, p, l, i, ka, kl, kc, sa, sl, sc, pa, pl, pc⟩ := t
 unfold TreeV.val
 simp only at *
 clear hvf h hl hl0
 subst hln
 obtain ⟨ib, hib, hzb, hsb, hbb⟩ := info_parts info_bytes
 obtain ⟨i0, hi, hz0, hz1, hz2⟩ := info_parts info_u8
 have HV := hid hv
 obtain ⟨a, cap, rfl, hc1, hc2⟩ := hv.slice
 clear hv
 have hbA : Below b0 w (w.alloc (.cells #[.int .i64 k, .int .i64 d, .int .i64 f, .int .i64 p, .int .u32 (ln : Int), .int .i64 i, .slice ka kl kc, .slice sa sl sc, .slice pa pl pc] 26)) := by rw [← hb0]; exact (Below.refl _ _).alloc (Nat.le_refl _) _
 have hrA := World.alloc_heap_new w (.cells #[.int .i64 k, .int .i64 d, .int .i64 f, .int .i64 p, .int .u32 (ln : Int), .int .i64 i, .slice ka kl kc, .slice sa sl sc, .slice pa pl pc] 26)
 rw [hb0] at hrA
 go_enter Try.func15, Try.ntmps15
 go_upto_region 1 with (fail)
 generalize w.alloc (.cells #[.int .i64 k, .int .i64 d, .int .i64 f, .int .i64 p, .int .u32 (ln : Int), .int .i64 i, .slice ka kl kc, .slice sa sl sc, .slice pa pl pc] 26) = wA at *
 have c4 : wA.cell? ⟨b0, 4, none⟩ = some (.int .u32 (ln : Int)) := cell_of_heap hrA 4
 have hbs : b0 < wA.heap.size := (Array.getElem?_eq_some_iff.1 hrA).1
 have HBA := hid hbA
 clear hrA hbA
 by_cases h0 : zs = []
 case pos =>
  subst h0
  have HR := hid (listO_one (B := b0) (w := wA) (x := .slice none 0 0) (z := []) ⟨fun _ h => by simp at h, .inl ⟨rfl, rfl⟩⟩ (by omega))
  have HB := hid (HBA.out.alloc (show b0 ≤ wA.heap.size by omega) (.cells #[.slice none 0 0] 24))
  go_wp2_with ((with_reducible show wpList _ _ _ (Oper.mk _ (Op.buildSlice _ _ _) _ _ _ _ :: _) _ _); refine wpList_build1 rfl _ rfl _ _ _ rfl ?_)
  go_ret
  exact ⟨_, rfl, by rw [hb0]; exact HR.out, by rw [hb0]; exact HB.out⟩
 have hlp : 0 < zs.length := List.length_pos_iff.2 h0
 have hcz : cutZ ln zs = pieces ln zs (cdiv zs.length ln) := if_neg h0
 have HCZ := hid hcz
 have hlp2 : ((zs.length : Int) == 0) = false := beq_eq_false_iff_ne.2 (by omega)
 clear h0 hcz
 go_wp2_with fail
 go_loopw [1, 5] (fun x s wr => ∃ j : Nat, j ≤ cdiv zs.length ln ∧ Hold w x (zs.drop (j * ln)) ∧ ListO b0 wr s (pieces ln zs j) ∧ Below b0 w wr) (fun x _ _ => lenV x)
 case atStart => exact ⟨0, Nat.zero_le _, by rw [Nat.zero_mul]; exact HV.out, ListO.nil _ _, HBA.out⟩
 case round =>
  obtain ⟨j, hj, hx, ho, hb⟩ := hrel
  obtain ⟨a1, cp, rfl, hx1, hx2⟩ := id hx.slice
  have HX := hid hx
  have HO := hid ho
  have HB := hid hb
  have hdl : (zs.drop (j * ln)).length = zs.length - j * ln := by simp
  obtain ⟨m, hm⟩ : ∃ m, (zs.drop (j * ln)).length = m := ⟨_, rfl⟩
  rw [hm] at hx1 hdl ⊢
  have HDL := hid hdl
  have hbb0 : b0 ≤ wr.heap.size := by have := hb.size; omega
  clear hx ho hb hdl
  by_cases hlt : 0 < m
  case pos =>
   have hj2 : j < cdiv zs.length ln := (lt_cdiv hd1).2 (by have := HDL.out; omega)
   obtain ⟨k, hk⟩ : ∃ k, min ln m = k := ⟨_, rfl⟩
   have HK := hid hk
   have hmn : m ≤ 16777216 := by have := HDL.out; omega
   have hkm : 1 ≤ k ∧ k ≤ m ∧ k ≤ cp := by omega
   have hmi : min (ln : Int) (m : Int) = (k : Int) := by omega
   have hm2 : 0 < (m : Int) := by omega
   obtain ⟨g, off, rfl⟩ := hold_some HX.out (by rintro e; rw [e] at hm; simp at hm; omega)
   have hpk : piece ln zs j = (zs.drop (j * ln)).take k := by
    unfold piece
    by_cases h : ln ≤ m
    ·rw [show k = ln by have := HK.out; omega]
    ·rw [show k = m by have := HK.out; omega, List.take_of_length_le (by omega), List.take_of_length_le (by omega)]
   have HPK := hid hpk
   have hlk : ((zs.drop (j * ln)).take k).length = k := by rw [List.length_take]; omega
   have HLK := hid hlk
   have HSR := hid ((HX.out.below (hb0 ▸ HB.out)).src)
   have HZ := hid (show ∀ z ∈ (zs.drop (j * ln)).take k, 0 ≤ z ∧ z ≤ 255 from fun z hz => HX.out.1 z (List.mem_of_mem_take hz))
   obtain ⟨vs, hvo, hvx⟩ := HO.out
   have hvl : vs.length = j := by have := hvo.1; rw [pieces_length] at this; omega
   rw [pieces_length] at hvo hvx
   have HVX := hid hvx
   obtain ⟨a8, n8, k8, rfl⟩ := own_slice hvo
   have HVO := hid hvo
   have hj3 : j + 1 ≤ 16777217 := by have := cdiv_le (n := zs.length) hd1; omega
   have hkc : (k : Int) ≤ (cp : Int) ∧ (k : Int) ≤ (m : Int) ∧ 0 ≤ (k : Int) := by omega
   obtain ⟨hkc1, hkc2, hkc3⟩ := hkc
   have HM := hid hm
   have hmk := fun W : World => run_make (P := Try.prog) W 24 5 i0 (.int .u8 0) Try.underlying24 hi hz0 .i64 .i64 k k (by omega) (by omega) (by rw [hz2]; omega) (by omega)
   simp only [hz1] at hmk
   have hmc : madeCells #[.int .u8 0] k = (List.replicate k (.int .u8 0)).toArray := by
    apply Array.toList_inj.1
    rw [toList_madeCells_one]
   have HMC := hid hmc
   clear hk hpk hlk hvo hvx hm hmc
   by_cases hck : k = cp
   case pos =>
    subst hck
    go_upto_region 8 with (fail)
    obtain ⟨gl, hgl⟩ : ∃ gl, wr.heap.size = gl := ⟨_, rfl⟩
    have hgr : (wr.alloc (.cells (madeCells #[.int .u8 0] k) 5)).heap[gl]? = some (.cells (List.replicate k (.int .u8 0)).toArray 5 (0, 0)) := by rw [← HMC.out, ← hgl]; exact World.alloc_heap_new _ _
    have hbl : Below gl wr (wr.alloc (.cells (madeCells #[.int .u8 0] k) 5)) := by rw [← hgl]; exact (Below.refl _ _).alloc (Nat.le_refl _) _
    rw [hgl]
    generalize wr.alloc (.cells (madeCells #[.int .u8 0] k) 5) = w3 at *
    have hsr := HSR.out.below (hgl ▸ hbl)
    have hcs : ∀ (i : Nat) (v : Value), (((zs.drop (j * ln)).take k).map encB)[i]? = some v → w3.cell? ((⟨g, off, none⟩ : Addr).add i) = some v := fun i v hiv => by
     rcases hsr.2.2 with ⟨e, -⟩ | ⟨ad, c, e, h2⟩
     ·cases e
     ·simp only [Value.slice.injEq, Option.some.injEq] at e
      obtain ⟨rfl, -, -⟩ := e
      refine h2 i v ?_
      rw [List.getElem?_map] at hiv ⊢
      by_cases hik : i < k
      ·rw [List.getElem?_take, if_pos hik] at hiv; exact hiv
      ·rw [List.getElem?_take, if_neg hik] at hiv; cases hiv
    clear hmk
    go_upto_region 9 with ((with_reducible show wpList _ _ _ (Oper.mk (some 27) _ _ _ _ _ :: _) _ _); refine wpList_copy_splice rfl _ _ _ _ rfl 5 Try.underlying24 (by rw [hi]; simp [hz1]) _ _ _ _ _ _ rfl rfl gl 0 (List.replicate k (.int .u8 0)) 5 hgr (((zs.drop (j * ln)).take k).map encB) (by rw [List.length_map, HLK.out]; exact (Nat.min_eq_right (by omega)).symm) (fun _ => ⟨rfl, ⟨g, off, none⟩, rfl, hcs⟩) (by rw [List.length_map, HLK.out, List.length_replicate]; omega) (fun u hu => by obtain ⟨z, -, rfl⟩ := List.mem_map.1 hu; rfl) gl wr hbl (Nat.le_refl _) ?_; intro w4 hg4 hb4)
    have hsp : splice (List.replicate k (.int .u8 0)) 0 (((zs.drop (j * ln)).take k).map encB) = ((zs.drop (j * ln)).take k).map encB := by
     have := HLK.out
     simp only [splice, List.take_zero, List.nil_append, List.length_map, this, Nat.zero_add, List.drop_replicate, Nat.sub_self, List.replicate_zero, List.append_nil]
    have HO4 := hid (show OwnB b0 w4 (.slice (some ⟨gl, 0, none⟩) k k) ((zs.drop (j * ln)).take k) from ownB_of_own HZ.out ⟨by rw [List.length_map, HLK.out, Nat.mul_one], .inr ⟨gl, k, _, rfl, by omega, hg4.out, Nat.le_refl _, by unfold maxLen; omega, by rw [hsp, List.size_toArray, List.length_map, HLK.out, Nat.mul_one], by rw [hsp, List.toList_toArray, List.take_of_length_le (by rw [List.length_map, HLK.out, Nat.mul_one]; omega)]⟩⟩)
    have hb4' : Below wr.heap.size wr w4 := hgl ▸ hb4
    have HK4 := hid (KB.of_below hb4' hbb0)
    have HB4 := hid hb4'
    have HV4 := hid (show w4.ownsRow b0 24 1 (.slice a8 n8 k8) j vs from ownsRow_same' HVO.out (fun g _ g2 => hb4'.block g g2))
    have hs4 := hb4'.size
    clear hsp hsr hcs hg4 hb4 hb4' hgr hbl
    go_wp2_with (first | ((with_reducible show wpList _ _ _ (Oper.mk _ (Op.buildSlice _ _ _) _ _ _ _ :: _) _ _); refine wpList_build1 rfl _ rfl _ _ _ rfl ?_) | (at_builtin; refine wpList_push rfl _ _ _ rfl b0 24 (by decide) ib (.slice none 0 0) 1 24 Try.underlying47 hib hzb hsb hbb rfl (by decide) (.slice a8 n8 k8) j vs [.slice (some ⟨gl, 0, none⟩) k k] _ rfl HV4.out rfl rfl (by simp [Value.oneCell']) (by unfold maxLen; omega) (by omega) (by omega) ?_; intro v' w' hown' hkb' hsp'))
    have hd0 : (zs.drop (j * ln)).drop k = zs.drop ((j + 1) * ln) := by
     rw [List.drop_drop, Nat.add_mul, Nat.one_mul]
     by_cases h : ln ≤ m
     ·rw [show k = ln by have := HK.out; omega]
     ·rw [List.drop_eq_nil_of_le (by have := HDL.out; have := HK.out; omega), List.drop_eq_nil_of_le (by have := HDL.out; have := HK.out; omega)]
    refine ⟨⟨j + 1, by omega, ?_, ?_, HB.out.trans ((HB4.out.mono hbb0).trans hkb'.below)⟩, by simp [lenV]; omega⟩
    ·rw [← hd0]; exact hold_drop HX.out (by have := HM.out; omega) (by have := HM.out; omega) (by omega) g off rfl (.inr ⟨rfl, rfl⟩)
    ·rw [pieces_succ]
     refine ListO.snoc (w := w4) (vs := vs) (x := .slice (some ⟨gl, 0, none⟩) k k) (fun i hi => ?_) (by rw [pieces_length]; exact hvl) (by rw [HPK.out]; exact HO4.out) (by rw [pieces_length]; exact hown') hkb'
     rw [pieces_length] at hi
     exact (HVX.out i hi).kb HK4.out
   go_upto_region 8 with (fail)
   obtain ⟨gl, hgl⟩ : ∃ gl, wr.heap.size = gl := ⟨_, rfl⟩
   have hgr : (wr.alloc (.cells (madeCells #[.int .u8 0] k) 5)).heap[gl]? = some (.cells (List.replicate k (.int .u8 0)).toArray 5 (0, 0)) := by rw [← HMC.out, ← hgl]; exact World.alloc_heap_new _ _
   have hbl : Below gl wr (wr.alloc (.cells (madeCells #[.int .u8 0] k) 5)) := by rw [← hgl]; exact (Below.refl _ _).alloc (Nat.le_refl _) _
   rw [hgl]
   generalize wr.alloc (.cells (madeCells #[.int .u8 0] k) 5) = w3 at *
   have hsr := HSR.out.below (hgl ▸ hbl)
   have hcs : ∀ (i : Nat) (v : Value), (((zs.drop (j * ln)).take k).map encB)[i]? = some v → w3.cell? ((⟨g, off, none⟩ : Addr).add i) = some v := fun i v hiv => by
    rcases hsr.2.2 with ⟨e, -⟩ | ⟨ad, c, e, h2⟩
    ·cases e
    ·simp only [Value.slice.injEq, Option.some.injEq] at e
     obtain ⟨rfl, -, -⟩ := e
     refine h2 i v ?_
     rw [List.getElem?_map] at hiv ⊢
     by_cases hik : i < k
     ·rw [List.getElem?_take, if_pos hik] at hiv; exact hiv
     ·rw [List.getElem?_take, if_neg hik] at hiv; cases hiv
   clear hmk
   go_upto_region 9 with ((with_reducible show wpList _ _ _ (Oper.mk (some 27) _ _ _ _ _ :: _) _ _); refine wpList_copy_splice rfl _ _ _ _ rfl 5 Try.underlying24 (by rw [hi]; simp [hz1]) _ _ _ _ _ _ rfl rfl gl 0 (List.replicate k (.int .u8 0)) 5 hgr (((zs.drop (j * ln)).take k).map encB) (by rw [List.length_map, HLK.out]; exact (Nat.min_eq_right (by omega)).symm) (fun _ => ⟨rfl, ⟨g, off, none⟩, rfl, hcs⟩) (by rw [List.length_map, HLK.out, List.length_replicate]; omega) (fun u hu => by obtain ⟨z, -, rfl⟩ := List.mem_map.1 hu; rfl) gl wr hbl (Nat.le_refl _) ?_; intro w4 hg4 hb4)
   have hsp : splice (List.replicate k (.int .u8 0)) 0 (((zs.drop (j * ln)).take k).map encB) = ((zs.drop (j * ln)).take k).map encB := by
    have := HLK.out
    simp only [splice, List.take_zero, List.nil_append, List.length_map, this, Nat.zero_add, List.drop_replicate, Nat.sub_self, List.replicate_zero, List.append_nil]
   have HO4 := hid (show OwnB b0 w4 (.slice (some ⟨gl, 0, none⟩) k k) ((zs.drop (j * ln)).take k) from ownB_of_own HZ.out ⟨by rw [List.length_map, HLK.out, Nat.mul_one], .inr ⟨gl, k, _, rfl, by omega, hg4.out, Nat.le_refl _, by unfold maxLen; omega, by rw [hsp, List.size_toArray, List.length_map, HLK.out, Nat.mul_one], by rw [hsp, List.toList_toArray, List.take_of_length_le (by rw [List.length_map, HLK.out, Nat.mul_one]; omega)]⟩⟩)
   have hb4' : Below wr.heap.size wr w4 := hgl ▸ hb4
   have HK4 := hid (KB.of_below hb4' hbb0)
   have HB4 := hid hb4'
   have HV4 := hid (show w4.ownsRow b0 24 1 (.slice a8 n8 k8) j vs from ownsRow_same' HVO.out (fun g _ g2 => hb4'.block g g2))
   have hs4 := hb4'.size
   clear hsp hsr hcs hg4 hb4 hb4' hgr hbl
   go_wp2_with (first | ((with_reducible show wpList _ _ _ (Oper.mk _ (Op.buildSlice _ _ _) _ _ _ _ :: _) _ _); refine wpList_build1 rfl _ rfl _ _ _ rfl ?_) | (at_builtin; refine wpList_push rfl _ _ _ rfl b0 24 (by decide) ib (.slice none 0 0) 1 24 Try.underlying47 hib hzb hsb hbb rfl (by decide) (.slice a8 n8 k8) j vs [.slice (some ⟨gl, 0, none⟩) k k] _ rfl HV4.out rfl rfl (by simp [Value.oneCell']) (by unfold maxLen; omega) (by omega) (by omega) ?_; intro v' w' hown' hkb' hsp'))
   have hd0 : (zs.drop (j * ln)).drop k = zs.drop ((j + 1) * ln) := by
    rw [List.drop_drop, Nat.add_mul, Nat.one_mul]
    by_cases h : ln ≤ m
    ·rw [show k = ln by have := HK.out; omega]
    ·rw [List.drop_eq_nil_of_le (by have := HDL.out; have := HK.out; omega), List.drop_eq_nil_of_le (by have := HDL.out; have := HK.out; omega)]
   refine ⟨⟨j + 1, by omega, ?_, ?_, HB.out.trans ((HB4.out.mono hbb0).trans hkb'.below)⟩, by simp [lenV]; omega⟩
   ·rw [← hd0]; exact hold_drop HX.out (by have := HM.out; omega) (by have := HM.out; omega) (by omega) g off rfl (.inl rfl)
   ·rw [pieces_succ]
    refine ListO.snoc (w := w4) (vs := vs) (x := .slice (some ⟨gl, 0, none⟩) k k) (fun i hi => ?_) (by rw [pieces_length]; exact hvl) (by rw [HPK.out]; exact HO4.out) (by rw [pieces_length]; exact hown') hkb'
    rw [pieces_length] at hi
    exact (HVX.out i hi).kb HK4.out
  have hm0 : m = 0 := by omega
  have hjc : cdiv zs.length ln ≤ j := Nat.le_of_not_lt fun h => by
   have := (lt_cdiv hd1).1 h
   have := HDL.out
   omega
  obtain rfl : j = cdiv zs.length ln := by omega
  subst hm0
  clear hm
  go_wp2
  go_ret
  exact ⟨_, rfl, by rw [hb0, HCZ.out]; exact HO.out, by rw [hb0]; exact HB.out⟩
end Go.Proofs.Ytahenngmaoellaa
namespace Go.Proofs.Ytahenngmaoellaa
open Go.ChangeShapes Go.WideShapes Go.ChangeAt Go.RowKit Go.Joins Go.Shelf Go.Maps
open Go.Lib (hid)
theorem encF_get (big x0 : Bool) (v : Nat → Nat) {k : Nat} (hk : k + 1 ≤ 9) (i : Nat) :
    nthz (encF big x0 v (k + 1)) i = if ¬ (k + 1 = 7 ∧ x0 = true) ∧ atB big (k + 1) ≤ i ∧ i < atB big (k + 1) + szB big (k + 1) then byt (v (k + 1)) (i - atB big (k + 1)) else nthz (encF big x0 v k) i := by
  have hs := szE_bounds big false (k + 1) (by omega) (by omega)
  have e : szE big false (k + 1) = szB big (k + 1) := by simp [szE]
  rw [e] at hs
  have hm : 32 ≤ mB big := by cases big <;> decide
  rw [encF]
  by_cases h : k + 1 = 7 ∧ x0 = true
  · rw [if_pos h, if_neg (fun h2 => h2.1 h)]
  · rw [if_neg h, setL_get (by rw [bytesK_length, encF_length big x0 v k (by omega)]; omega), bytesK_length]
    by_cases h2 : atB big (k + 1) ≤ i ∧ i < atB big (k + 1) + szB big (k + 1)
    · rw [if_pos h2, if_pos ⟨h, h2⟩]
      simp [nthz, bytesK, List.getD_eq_getElem?_getD, show i - atB big (k + 1) < szB big (k + 1) by omega]
    · rw [if_neg h2, if_neg (fun h3 => h2 h3.2)]
theorem encF_zero (big x0 : Bool) (v : Nat → Nat) (i : Nat) : nthz (encF big x0 v 0) i = 0 := by
  unfold encF nthz
  simp only [List.getD_eq_getElem?_getD, List.getElem?_replicate]
  split <;> rfl
theorem blk_get {big : Bool} {v : Nat → Nat} {z1 z2 : List Int} (h1 : z1.length ≤ sB big) (h2 : z2.length ≤ sB big) {i : Nat} (hi : i < 2 * sB big) : nthz (blkP big v z1 z2) i = nthz (encF big (v 7 == 0) v 9) i := by
 have e := encF_length big (v 7 == 0) v 9 (by omega)
 have hm : 4 * sB big = mB big := by cases big <;> decide
 unfold blkP
 rw [setL_get (by rw [setL_length (by omega)]; omega), if_neg (by omega), setL_get (by omega), if_neg (by omega)]
theorem encF_step {big x0 : Bool} {v : Nat → Nat} (k : Nat) {i : Nat} (hk : k + 1 ≤ 9) (h : ¬ (atB big (k + 1) ≤ i ∧ i < atB big (k + 1) + szB big (k + 1))) : nthz (encF big x0 v (k + 1)) i = nthz (encF big x0 v k) i := by
 rw [encF_get big x0 v hk i, if_neg (fun h2 => h h2.2)]
theorem encF_hit {big x0 : Bool} {v : Nat → Nat} (k : Nat) {i : Nat} (hk : k + 1 ≤ 9) (h7 : k + 1 ≠ 7) (h : atB big (k + 1) = i) : nthz (encF big x0 v (k + 1)) i = byt (v (k + 1)) 0 := by
 have hs : 1 ≤ szB big (k + 1) := by
  have := szE_bounds big false (k + 1) (by omega) hk
  simpa [szE] using this.1
 rw [encF_get big x0 v hk i, if_pos ⟨fun h2 => h7 h2.1, by omega, by omega⟩, ← h, Nat.sub_self]
theorem byt_small {x : Nat} (h : x ≤ 255) : byt x 0 = (x : Int) := by
 have := byt_shr x 0
 simp at this
 omega
theorem okD_blk {big : Bool} {v : Nat → Nat} {z1 z2 : List Int} (hP : ParOk big v) (h1 : z1.length ≤ sB big) (h2 : z2.length ≤ sB big) : okD big false (blkP big v z1 z2) ∧ nthz (blkP big v z1 z2) 1 = (v 2 : Nat) := by
 have hs : 8 ≤ sB big := by cases big <;> decide
 have hm : mB big ≤ 64 := by cases big <;> decide
 obtain ⟨p1, p2, p3, p4, -, p6, p7⟩ := hP.p
 have g0 : nthz (blkP big v z1 z2) 0 = (v 1 : Nat) := by
  rw [blk_get h1 h2 (by omega), encF_step 8 (by omega) (by cases big <;> decide), encF_step 7 (by omega) (by cases big <;> decide), encF_step 6 (by omega) (by cases big <;> decide), encF_step 5 (by omega) (by cases big <;> decide), encF_step 4 (by omega) (by cases big <;> decide),
   encF_step 3 (by omega) (by cases big <;> decide), encF_step 2 (by omega) (by cases big <;> decide), encF_step 1 (by omega) (by cases big <;> decide), encF_hit 0 (by omega) (by omega) (by cases big <;> rfl)]
  exact byt_small (x := v 1) (by omega)
 have g1 : nthz (blkP big v z1 z2) 1 = (v 2 : Nat) := by
  rw [blk_get h1 h2 (by omega), encF_step 8 (by omega) (by cases big <;> decide), encF_step 7 (by omega) (by cases big <;> decide), encF_step 6 (by omega) (by cases big <;> decide), encF_step 5 (by omega) (by cases big <;> decide), encF_step 4 (by omega) (by cases big <;> decide),
   encF_step 3 (by omega) (by cases big <;> decide), encF_step 2 (by omega) (by cases big <;> decide), encF_hit 1 (by omega) (by omega) (by cases big <;> rfl)]
  exact byt_small (x := v 2) (by omega)
 have g3 : nthz (blkP big v z1 z2) 3 = (v 4 : Nat) := by
  rw [blk_get h1 h2 (by omega), encF_step 8 (by omega) (by cases big <;> decide), encF_step 7 (by omega) (by cases big <;> decide), encF_step 6 (by omega) (by cases big <;> decide), encF_step 5 (by omega) (by cases big <;> decide), encF_step 4 (by omega) (by cases big <;> decide),
   encF_hit 3 (by omega) (by omega) (by cases big <;> rfl)]
  exact byt_small (x := v 4) (by omega)
 have h9 : atB big 9 < 2 * sB big := by cases big <;> decide
 have g9 : nthz (blkP big v z1 z2) (atB big 9) = (v 9 : Nat) := by
  rw [blk_get h1 h2 h9, encF_hit 8 (by omega) (by omega) rfl]
  exact byt_small (x := v 9) (by omega)
 refine ⟨⟨blkP_length h1 h2, fun hb i i1 i2 => ?_, fun h => (by cases h), ?_⟩, g1⟩
 ·subst hb
  have hsi : i < 2 * sB true := i2
  have ha : ∀ k, k < 9 → ¬ (atB true (k + 1) ≤ i ∧ i < atB true (k + 1) + szB true (k + 1)) := fun k hk h => by
   have : atB true (k + 1) + szB true (k + 1) ≤ 18 := by
    rcases (show k = 0 ∨ k = 1 ∨ k = 2 ∨ k = 3 ∨ k = 4 ∨ k = 5 ∨ k = 6 ∨ k = 7 ∨ k = 8 by omega) with rfl | rfl | rfl | rfl | rfl | rfl | rfl | rfl | rfl <;> decide
   omega
  rw [blk_get h1 h2 hsi, encF_step 8 (by omega) (ha 8 (by omega)), encF_step 7 (by omega) (ha 7 (by omega)), encF_step 6 (by omega) (ha 6 (by omega)), encF_step 5 (by omega) (ha 5 (by omega)), encF_step 4 (by omega) (ha 4 (by omega)), encF_step 3 (by omega) (ha 3 (by omega)),
   encF_step 2 (by omega) (ha 2 (by omega)), encF_step 1 (by omega) (ha 1 (by omega)), encF_step 0 (by omega) (ha 0 (by omega)), encF_zero]
 ·rw [g0, g1, g3, g9]
  exact ⟨p1, p2, fun _ => p4.1, p7⟩
end Go.Proofs.Ytahenngmaoellaa
namespace Go.Proofs.Ytahenngmaoellaa
open Go.ChangeShapes Go.WideShapes Go.ChangeAt Go.RowKit Go.Joins Go.Shelf Go.Maps
open Go.Lib (hid)
attribute [local go_sem] Oper.semAt_some
theorem setL_bounds {b zs : List Int} {p : Nat} (hb : ∀ z ∈ b, 0 ≤ z ∧ z ≤ 255) (hz : ∀ z ∈ zs, 0 ≤ z ∧ z ≤ 255) : ∀ z ∈ setL b p zs, 0 ≤ z ∧ z ≤ 255 := by
 intro z h
 unfold setL at h
 rcases List.mem_append.1 h with h | h
 ·rcases List.mem_append.1 h with h | h
  ·exact hb z (List.mem_of_mem_take h)
  ·exact hz z h
 ·exact hb z (List.mem_of_mem_drop h)
theorem encF_bounds (big x0 : Bool) (v : Nat → Nat) : ∀ k, ∀ z ∈ encF big x0 v k, 0 ≤ z ∧ z ≤ 255
 | 0, z, h => by rw [List.eq_of_mem_replicate h]; omega
 | k + 1, z, h => by
  rw [encF] at h
  split at h
  ·exact encF_bounds big x0 v k z h
  ·exact setL_bounds (encF_bounds big x0 v k) (bytesK_bounds _ _) z h
theorem blkP_bounds {big : Bool} {v : Nat → Nat} {z1 z2 : List Int} (h1 : ∀ z ∈ z1, 0 ≤ z ∧ z ≤ 255) (h2 : ∀ z ∈ z2, 0 ≤ z ∧ z ≤ 255) : ∀ z ∈ blkP big v z1 z2, 0 ≤ z ∧ z ≤ 255 :=
 setL_bounds (setL_bounds (encF_bounds _ _ _ _) h1) h2
/-- A tree that may be, with its bytes in memory. -/
structure TreeOk (t : TreeV) (kz z1 z2 : List Int) (w : World) : Prop where
 v : t.validE = 0
 l : 0 ≤ t.l ∧ t.l ≤ 4294967295
 k : Hold w (.slice t.ka t.kl t.kc) kz
 s : Hold w (.slice t.sa t.sl t.sc) z1
 p : Hold w (.slice t.pa t.pl t.pc) z2
theorem TreeOk.below {t : TreeV} {kz z1 z2 : List Int} {w w' : World} (h : TreeOk t kz z1 z2 w) (hb : Below w.heap.size w w') : TreeOk t kz z1 z2 w' := ⟨h.v, h.l, h.k.below hb, h.s.below hb, h.p.below hb⟩
theorem hold_len {w : World} {a : Option Addr} {n c : Nat} {zs : List Int} (h : Hold w (.slice a n c) zs) : zs.length = n := by
 obtain ⟨a', c', e, -, -⟩ := h.slice
 simp only [Value.slice.injEq] at e
 exact e.2.1.symm
/-- What a node gives. -/
def TreeV.node (t : TreeV) (kz z1 z2 : List Int) (row i : Nat) (la rt : Bool) (d : List Int) : List Int := callR t.big (t.blk z1 z2 row i) (keyL row kz) la (t.outN rt) d
theorem TreeV.node_bounds (t : TreeV) (kz z1 z2 : List Int) (row i : Nat) (la rt : Bool) (d : List Int) : ∀ a ∈ t.node kz z1 z2 row i la rt d, 0 ≤ a ∧ a ≤ 255 := fun a ha => outZ_bounds _ _ _ _ a (List.mem_of_mem_take ha)
theorem nodeCall_any (big : Bool) (bs kz ds : List Int) (la : Bool) (o : Int) (bv kv dv : Value) (w : World) (hB : Hold w bv bs) (hK : Hold w kv kz) (hD : Hold w dv ds) (hdl : (ds.length : Int) ≤ 140737488355200) (hok : okD big false bs) (hkb0 : keyBad bs kz = false) (ho : 1 ≤ o ∧ o ≤ (mB big : Nat)) :
  Calls Try.prog 17 #[.agg (callC (kB big) bv kv la o dv)] w fun e w' => CallIs big bs kz la o ds w e w' := by
 cases big
 ·exact call_false bs kz ds la o bv kv dv w hB hK hD hdl hok hkb0 ho
 ·exact call_true bs kz ds la o bv kv dv w hB hK hD hdl hok hkb0 ho
/-- A node's block and key may be. -/
theorem TreeOk.okD {t : TreeV} {kz z1 z2 : List Int} {w : World} (h : TreeOk t kz z1 z2 w) {row at_ : Nat} (hr : row ≤ 255) (ha : at_ < 281474976710656) :
  Go.Proofs.Ytahenngmaoellaa.okD t.big false (t.blk z1 z2 row at_) ∧ keyBad (t.blk z1 z2 row at_) (keyL row kz) = false ∧ (∀ z ∈ t.blk z1 z2 row at_, 0 ≤ z ∧ z ≤ 255) ∧ ∀ rt : Bool, 1 ≤ t.outN rt ∧ t.outN rt ≤ (mB t.big : Nat) := by
 have hvf := TreeV.valid_facts h.v
 have hmb := TreeV.mB_big h.v
 have e1 := hold_len h.s
 have e2 := hold_len h.p
 have e3 := hold_len h.k
 obtain ⟨h1, h2⟩ := okD_blk (z1 := z1) (z2 := z2) (TreeV.parOk h.v h.l hr ha) (by omega) (by omega)
 refine ⟨h1, ?_, blkP_bounds h.s.1 h.p.1, fun rt => ?_⟩
 ·have h3 : nthz (t.blk z1 z2 row at_) 1 = (t.kl : Int) := h2
  unfold keyBad keyL
  rw [h3]
  refine decide_eq_false ?_
  split
  ·omega
  ·simp
 ·obtain ⟨-, d1, d2, d3, d4, -⟩ := hvf
  cases rt
  ·show 1 ≤ t.i ∧ t.i ≤ _; omega
  ·show 1 ≤ t.d ∧ t.d ≤ _; omega
theorem node_ok {t : TreeV} {kz z1 z2 : List Int} {w : World} (h : TreeOk t kz z1 z2 w) {row at_ : Nat} (hr : row ≤ 255) (ha : at_ < 281474976710656) (la rt : Bool) (ds : List Int) (dv bv kv : Value) (W : World) (b : Nat)
  (ho : W.ownsRow b 5 1 bv (mB t.big) ((t.blk z1 z2 row at_).map encB)) (hk : W.ownsRow b 5 1 kv (keyL row kz).length ((keyL row kz).map encB)) (hd : Hold W dv ds) (hl : ds.length ≤ 1073741824) :
  Calls Try.prog 17 #[.agg (callC t.k bv kv la (t.outN rt) dv)] W fun e w' => ∃ u, e = .returned (.tuple #[u, .int .i64 0]) ∧ OwnB W.heap.size w' u (t.node kz z1 z2 row at_ la rt ds) ∧ Below W.heap.size W w' := by
 obtain ⟨h1, h2, h3, h4⟩ := h.okD hr ha
 have hkz : ∀ z ∈ keyL row kz, 0 ≤ z ∧ z ≤ 255 := fun z hz => by
  unfold keyL at hz
  split at hz
  ·exact h.k.1 z hz
  ·cases hz
 rw [← TreeV.kB_big h.v]
 refine (nodeCall_any t.big _ _ ds la _ bv kv dv W (hold_of_own ho h3) (hold_of_own hk hkz) hd (by omega) h1 h2 (h4 rt)).mono ?_
 rintro e w' ⟨⟨u, rfl, hu⟩, hb⟩
 exact ⟨u, rfl, ⟨TreeV.node_bounds t kz z1 z2 row at_ la rt ds, hu⟩, hb⟩
/-- A row's outputs, the first m. -/
def TreeV.rowZ (t : TreeV) (kz z1 z2 : List Int) (row : Nat) (rt : Bool) (L : List (List Int)) (m : Nat) : List (List Int) := (List.range m).map fun i => t.node kz z1 z2 row i (decide (i + 1 = L.length)) rt (nthL L i)
theorem TreeV.rowZ_succ (t : TreeV) (kz z1 z2 : List Int) (row : Nat) (rt : Bool) (L : List (List Int)) (m : Nat) : t.rowZ kz z1 z2 row rt L (m + 1) = t.rowZ kz z1 z2 row rt L m ++ [t.node kz z1 z2 row m (decide (m + 1 = L.length)) rt (nthL L m)] := by simp [TreeV.rowZ, List.range_succ]
theorem TreeV.rowZ_length (t : TreeV) (kz z1 z2 : List Int) (row : Nat) (rt : Bool) (L : List (List Int)) (m : Nat) : (t.rowZ kz z1 z2 row rt L m).length = m := by simp [TreeV.rowZ]
theorem cutZ_len {n : Nat} (zs : List Int) (hn : 1 ≤ n) : 1 ≤ (cutZ n zs).length ∧ (cutZ n zs).length ≤ zs.length + 1 := by
 unfold cutZ
 split
 ·exact ⟨Nat.le_refl _, by simp⟩
 ·rename_i h
  have h1 := List.length_pos_iff.2 h
  rw [pieces_length]
  have := cdiv_le (n := zs.length) hn
  have := cdiv_pos (d := n) (show 1 ≤ zs.length from h1)
  omega
theorem cutZ_nth {n : Nat} (zs : List Int) (i : Nat) : (nthL (cutZ n zs) i).length ≤ zs.length := by
 unfold cutZ
 split
 ·cases i <;> simp [nthL]
 ·unfold nthL pieces
  rw [List.getD_eq_getElem?_getD, List.getElem?_map]
  cases (List.range (cdiv zs.length n))[i]? with
  | none => simp
  | some j => exact (piece_sub n zs j).length_le
end Go.Proofs.Ytahenngmaoellaa
namespace Go.Proofs.Ytahenngmaoellaa
open Go.ChangeShapes Go.WideShapes Go.ChangeAt Go.RowKit Go.Joins Go.Shelf Go.Maps
open Go.Lib (hid)
/-- The outputs of the rows, over the leaves'. -/
def TreeV.lvlZ (t : TreeV) (kz z1 z2 : List Int) (L0 : List (List Int)) : Nat → List (List Int)
 | 0 => L0
 | r + 1 => t.rowZ kz z1 z2 (r + 1) (t.rootZ (r + 1) (t.lvlZ kz z1 z2 L0 r).length) (t.upZ (r + 1) (t.lvlZ kz z1 z2 L0 r)) (t.upZ (r + 1) (t.lvlZ kz z1 z2 L0 r)).length
/-- The root's row. -/
def TreeV.topAt (t : TreeV) (kz z1 z2 : List Int) (L0 : List (List Int)) (R : Nat) : Prop := 1 ≤ R ∧ t.rootZ R (t.lvlZ kz z1 z2 L0 (R - 1)).length = true ∧ ∀ q, 1 ≤ q → q < R → t.rootZ q (t.lvlZ kz z1 z2 L0 (q - 1)).length = false
theorem TreeV.topAt_one {t : TreeV} {kz z1 z2 : List Int} {L0 : List (List Int)} {R S : Nat} (h : t.topAt kz z1 z2 L0 R) (k : t.topAt kz z1 z2 L0 S) : R = S := by
 rcases Nat.lt_trichotomy R S with h1 | h1 | h1
 ·have := k.2.2 R h.1 h1; rw [h.2.1] at this; cases this
 ·exact h1
 ·have := h.2.2 S k.1 h1; rw [k.2.1] at this; cases this
theorem TreeV.rootZ_last {t : TreeV} {row n : Nat} (h : (row : Int) = t.p - 1) : t.rootZ row n = true := decide_eq_true (.inr (.inl h))
theorem TreeV.fn_pos {t : TreeV} (h : t.validE = 0) {row n : Nat} (hr : t.rootZ row n = false) : 2 ≤ t.fn ∧ t.fn < n ∧ t.fn ≤ 255 := by
 have h1 := (TreeV.valid_facts h).2.2.2.2.2.1
 have h2 : ¬ (t.f = 0 ∨ (row : Int) = t.p - 1 ∨ (n : Int) ≤ t.f) := of_decide_eq_false hr
 unfold TreeV.fn
 omega
theorem TreeV.upZ_len {t : TreeV} (h : t.validE = 0) (row : Nat) {L : List (List Int)} (hL : L ≠ []) : 1 ≤ (t.upZ row L).length ∧ (t.upZ row L).length ≤ L.length := by
 have hp := List.length_pos_iff.2 hL
 unfold TreeV.upZ
 cases hr : t.rootZ row L.length with
 | true => exact ⟨Nat.le_refl _, hp⟩
 | false =>
  have := TreeV.fn_pos h hr
  rw [if_neg (by simp), flats_length]
  exact ⟨cdiv_pos hp, cdiv_le (by omega)⟩
theorem TreeV.upZ_item (t : TreeV) (row : Nat) (L : List (List Int)) (i : Nat) : (nthL (t.upZ row L) i).length ≤ L.flatten.length := by
 unfold TreeV.upZ
 split
 ·cases i <;> simp [nthL]
 ·unfold nthL flats
  rw [List.getD_eq_getElem?_getD, List.getElem?_map]
  cases (List.range (cdiv L.length t.fn))[i]? with
  | none => simp
  | some j => exact flatten_le_of_sub (piece_sub t.fn L j)
theorem TreeV.node_len (t : TreeV) (kz z1 z2 : List Int) (row i : Nat) (la rt : Bool) (d : List Int) : (t.node kz z1 z2 row i la rt d).length ≤ 64 := by
 have h1 : (outZ t.big (h0Z t.big (t.blk z1 z2 row i)) (keyZ (bB t.big) (keyL row kz) ++ d) la).length = mB t.big := outZ_length _ _ _ _
 have h2 : mB t.big ≤ 64 := by cases t.big <;> decide
 unfold TreeV.node callR
 rw [List.length_take]; omega
theorem TreeV.rowZ_item (t : TreeV) (kz z1 z2 : List Int) (row : Nat) (rt : Bool) (L : List (List Int)) (m : Nat) : ∀ z ∈ t.rowZ kz z1 z2 row rt L m, z.length ≤ 64 := fun z hz => by
 obtain ⟨i, -, rfl⟩ := List.mem_map.1 hz
 exact TreeV.node_len ..
theorem flatten_len64 : ∀ {L : List (List Int)}, (∀ z ∈ L, z.length ≤ 64) → L.flatten.length ≤ 64 * L.length
 | [], _ => Nat.le_refl _
 | z :: L, h => by
  have h1 := h z (List.mem_cons_self ..)
  have h2 := flatten_len64 (L := L) (fun y hy => h y (List.mem_cons_of_mem _ hy))
  simp only [List.flatten_cons, List.length_append, List.length_cons]; omega
theorem TreeV.lvlZ_facts {t : TreeV} (h : t.validE = 0) (kz z1 z2 : List Int) {L0 : List (List Int)} (h0 : L0 ≠ []) (h1 : ∀ z ∈ L0, z.length ≤ 64) : ∀ r, t.lvlZ kz z1 z2 L0 r ≠ [] ∧ (t.lvlZ kz z1 z2 L0 r).length ≤ L0.length ∧ ∀ z ∈ t.lvlZ kz z1 z2 L0 r, z.length ≤ 64
 | 0 => ⟨h0, Nat.le_refl _, h1⟩
 | r + 1 => by
  obtain ⟨i1, i2, i3⟩ := TreeV.lvlZ_facts h kz z1 z2 h0 h1 r
  have hu := TreeV.upZ_len h (r + 1) i1
  have hl : (t.lvlZ kz z1 z2 L0 (r + 1)).length = (t.upZ (r + 1) (t.lvlZ kz z1 z2 L0 r)).length := TreeV.rowZ_length ..
  exact ⟨List.length_pos_iff.1 (by omega), by omega, fun z hz => TreeV.rowZ_item _ _ _ _ _ _ _ _ z hz⟩
end Go.Proofs.Ytahenngmaoellaa
namespace Go.Proofs.Ytahenngmaoellaa
open Go.ChangeShapes Go.WideShapes Go.ChangeAt Go.RowKit Go.Joins Go.Shelf Go.Maps
open Go.Lib (hid)
attribute [local go_sem] Oper.semAt_some
theorem ListO.get {B : Nat} {w : World} {v : Value} {L : List (List Int)} (h : ListO B w v L) {i : Nat} (hi : i < L.length) : ∃ g cap x, v = .slice (some ⟨g, 0, none⟩) L.length cap ∧ g < w.heap.size ∧ w.cell? ⟨g, i, none⟩ = some x ∧ OwnB B w x (nthL L i) := by
 obtain ⟨vs, ho, hx⟩ := h
 have hl : vs.length = L.length := by have := ho.1; simpa using this
 rcases ho.2 with ⟨rfl, h0⟩ | ⟨g, cap, cur, rfl, h1, h2, h3, h4, h5, h6⟩
 ·omega
 ·refine ⟨g, cap, vs.getD i undef, rfl, (Array.getElem?_eq_some_iff.1 h2).1, ?_, hx i hi⟩
  rw [cell_of_heap h2 i]
  have e : cur.toList[i]? = vs[i]? := by rw [← h6, List.getElem?_take, if_pos (by omega)]
  rw [← Array.getElem?_toList, e, List.getD_eq_getElem?_getD, List.getElem?_eq_getElem (by omega)]; rfl
/-- A call of a node, told. -/
structure CallS where
 k : Int
 bs : List Int
 kz : List Int
 la : Bool
 o : Int
 ds : List Int
theorem own_block_lt {w : World} {B T n s : Nat} {v : Value} {xs : List Value} (ho : w.ownsRow B T s v n xs) : ∀ g, v.ownBlock = some g → g < w.heap.size := by
 intro g hg
 rcases ho.2 with ⟨rfl, -⟩ | ⟨g', cap, cur, rfl, -, h2, -⟩
 ·cases hg
 ·simp only [Value.ownBlock, Option.some.injEq] at hg
  subst hg
  exact (Array.getElem?_eq_some_iff.1 h2).1
theorem getD_snoc {α : Type} (L : List α) (x d : α) (i : Nat) : (L ++ [x]).getD i d = if i < L.length then L.getD i d else if i = L.length then x else d := by
 simp only [List.getD_eq_getElem?_getD]
 by_cases h : i < L.length
 ·rw [List.getElem?_append_left h, if_pos h]
 ·rw [if_neg h, List.getElem?_append_right (by omega)]
  by_cases h2 : i = L.length
  ·subst h2; simp
  ·rw [if_neg h2, List.getElem?_eq_none (by simp; omega)]; rfl
/-- Another row's block stays. -/
theorem own_spare {W W' : World} {B1 B2 T1 T2 s1 s2 n1 n2 : Nat} {v1 v2 : Value} {x1 x2 : List Value} (h1 : W.ownsRow B1 T1 s1 v1 n1 x1) (h2 : W.ownsRow B2 T2 s2 v2 n2 x2) (hT : T1 ≠ T2) (h : Spare (fun k => v1.ownBlock ≠ some k) W W') : ∀ g, v2.ownBlock = some g → W'.heap[g]? = W.heap[g]? := by
 intro g hg
 refine h.block g (own_block_lt h2 g hg) fun e => ?_
 rcases h1.2 with ⟨rfl, -⟩ | ⟨g1, k1, c1, rfl, -, p1, -⟩
 ·cases e
 rcases h2.2 with ⟨rfl, -⟩ | ⟨g2, k2, c2, rfl, -, p2, -⟩
 ·cases hg
 simp only [Value.ownBlock, Option.some.injEq] at e hg
 subst e hg
 rw [p1] at p2
 simp only [Option.some.injEq, Obj.cells.injEq] at p2
 exact hT p2.2.1
theorem own_keep {W W' : World} {B T s n : Nat} {v : Value} {xs : List Value} (h : W.ownsRow B T s v n xs) (hs : ∀ g, v.ownBlock = some g → W'.heap[g]? = W.heap[g]?) : W'.ownsRow B T s v n xs := by
 refine ⟨h.1, ?_⟩
 rcases h.2 with h2 | ⟨g, cap, cur, rfl, h1, h2, h3⟩
 ·exact .inl h2
 ·exact .inr ⟨g, cap, cur, rfl, h1, by rw [hs g rfl]; exact h2, h3⟩
theorem own_slice6 {W : World} {B T s n : Nat} {v : Value} {xs : List Value} (h : W.ownsRow B T s v n xs) : ∃ a n c, v = .slice a n c := by
 rcases h.2 with ⟨rfl, -⟩ | ⟨g, cap, cur, rfl, -⟩
 ·exact ⟨_, _, _, rfl⟩
 ·exact ⟨_, _, _, rfl⟩
/-- A node's call. -/
def TreeV.callS (t : TreeV) (kz z1 z2 : List Int) (row i : Nat) (la rt : Bool) (d : List Int) : CallS := ⟨t.k, t.blk z1 z2 row i, keyL row kz, la, t.outN rt, d⟩
/-- A row's calls, the first m. -/
def TreeV.rowC (t : TreeV) (kz z1 z2 : List Int) (row : Nat) (rt : Bool) (L : List (List Int)) (m : Nat) : List CallS := (List.range m).map fun i => t.callS kz z1 z2 row i (decide (i + 1 = L.length)) rt (nthL L i)
theorem TreeV.rowC_succ (t : TreeV) (kz z1 z2 : List Int) (row : Nat) (rt : Bool) (L : List (List Int)) (m : Nat) : t.rowC kz z1 z2 row rt L (m + 1) = t.rowC kz z1 z2 row rt L m ++ [t.callS kz z1 z2 row m (decide (m + 1 = L.length)) rt (nthL L m)] := by simp [TreeV.rowC, List.range_succ]
theorem TreeV.rowC_length (t : TreeV) (kz z1 z2 : List Int) (row : Nat) (rt : Bool) (L : List (List Int)) (m : Nat) : (t.rowC kz z1 z2 row rt L m).length = m := by simp [TreeV.rowC]
/-- What the leaves give. -/
def TreeV.leafZ (t : TreeV) (kz z1 z2 zs : List Int) : List (List Int) := t.rowZ kz z1 z2 0 false (cutZ t.ln zs) (cutZ t.ln zs).length
theorem TreeV.leafZ_facts {t : TreeV} (h : t.validE = 0) (hl : 0 ≤ t.l ∧ t.l ≤ 4294967295) (kz z1 z2 zs : List Int) : t.leafZ kz z1 z2 zs ≠ [] ∧ (t.leafZ kz z1 z2 zs).length ≤ zs.length + 1 ∧ ∀ z ∈ t.leafZ kz z1 z2 zs, z.length ≤ 64 := by
 have hln : 1 ≤ t.ln := by
  have := (TreeV.valid_facts h).2.2.2.2.2.2.2.2.1
  unfold TreeV.ln; omega
 have h1 := cutZ_len zs hln
 have h2 : (t.leafZ kz z1 z2 zs).length = (cutZ t.ln zs).length := TreeV.rowZ_length ..
 exact ⟨List.length_pos_iff.1 (by omega), by omega, fun z hz => TreeV.rowZ_item _ _ _ _ _ _ _ _ z hz⟩
/-- The blocks of F may turn, and no bytes. -/
structure Tend (F : Nat → Prop) (w w' : World) : Prop where
 sp : Spare (fun k => ¬ F k) w w'
 bytes : ∀ (k : Nat) (c : Array Value), w.heap[k]? = some (.cells c 5 (0, 0)) → w'.heap[k]? = some (.cells c 5 (0, 0))
theorem OwnB.tend {B : Nat} {w w' : World} {x : Value} {z : List Int} (h : OwnB B w x z) (hb : ∀ (k : Nat) (c : Array Value), w.heap[k]? = some (.cells c 5 (0, 0)) → w'.heap[k]? = some (.cells c 5 (0, 0))) : OwnB B w' x z := by
 refine ⟨h.1, ?_⟩
 rcases h.2 with h | ⟨g, cap, cur, e, h1, h2, h3⟩
 ·exact .inl h
 ·exact .inr ⟨g, cap, cur, e, h1, hb _ _ h2, h3⟩
theorem ListO.tend {B : Nat} {w w' : World} {v : Value} {L : List (List Int)} (h : ListO B w v L) (hb : ∀ (k : Nat) (c : Array Value), w.heap[k]? = some (.cells c 5 (0, 0)) → w'.heap[k]? = some (.cells c 5 (0, 0))) (hs : ∀ g, v.ownBlock = some g → w'.heap[g]? = w.heap[g]?) : ListO B w' v L := by
 obtain ⟨vs, ho, hx⟩ := h
 exact ⟨vs, own_keep ho hs, fun i hi => (hx i hi).tend hb⟩
theorem ListO.block_lt {B : Nat} {w : World} {v : Value} {L : List (List Int)} (h : ListO B w v L) : ∀ g, v.ownBlock = some g → g < w.heap.size := by
 obtain ⟨vs, ho, -⟩ := h
 exact own_block_lt ho
/-- A function that keeps an account of the calls that it is handed. -/
structure Seer (t : TreeV) (kz z1 z2 : List Int) (w0 : World) (fk bl : Nat) (I : List (List CallS) → List CallS → (Nat → Prop) → World → Prop) : Prop where
 lt : ∀ {done cur F w}, I done cur F w → ∀ k, F k → w0.heap.size ≤ k ∧ k < w.heap.size
 keep : ∀ {done cur F w w'}, I done cur F w → Below w0.heap.size w w' → (∀ k, F k → w'.heap[k]? = w.heap[k]?) → (∀ (k : Nat) (c : Array Value), w.heap[k]? = some (.cells c 5 (0, 0)) → w'.heap[k]? = some (.cells c 5 (0, 0))) → I done cur F w'
 next : ∀ {done cur F w}, cur ≠ [] → I done cur F w → I (done ++ [cur]) [] F w
 see : ∀ {done cur F w} {row i : Nat} {la rt : Bool} {d : List Int} {bv kv dv : Value}, I done cur F w → done.length = row → row ≤ 255 → i ≤ 8388608 → (∀ l ∈ done, l.length ≤ 8388608) → cur.length ≤ 8388608 → Below w0.heap.size w0 w →
  w.ownsRow w0.heap.size 5 1 bv (mB t.big) ((t.blk z1 z2 row i).map encB) → w.ownsRow w0.heap.size 5 1 kv (keyL row kz).length ((keyL row kz).map encB) → OwnB w0.heap.size w dv d → d.length ≤ 1073741824 →
  Calls Try.prog fk #[.agg (callC t.k bv kv la (t.outN rt) dv), .int .i64 (row : Nat), .pointer (some ⟨bl, 0, none⟩)] w fun e w' => ∃ u F', e = .returned u ∧ OwnB w.heap.size w' u (t.node kz z1 z2 row i la rt d) ∧ (∀ k, F' k → F k ∨ w.heap.size ≤ k) ∧ I done (cur ++ [t.callS kz z1 z2 row i la rt d]) F' w' ∧ Tend F w w'
/-- The data of a row; whether it is the root's; its calls. -/
def TreeV.dataR (t : TreeV) (kz z1 z2 zs : List Int) : Nat → List (List Int)
 | 0 => cutZ t.ln zs
 | r + 1 => t.upZ (r + 1) (t.lvlZ kz z1 z2 (t.leafZ kz z1 z2 zs) r)
def TreeV.rtR (t : TreeV) (kz z1 z2 zs : List Int) : Nat → Bool
 | 0 => false
 | r + 1 => t.rootZ (r + 1) (t.lvlZ kz z1 z2 (t.leafZ kz z1 z2 zs) r).length
def TreeV.callsR (t : TreeV) (kz z1 z2 zs : List Int) (r : Nat) : List CallS := t.rowC kz z1 z2 r (t.rtR kz z1 z2 zs r) (t.dataR kz z1 z2 zs r) (t.dataR kz z1 z2 zs r).length
def TreeV.allC (t : TreeV) (kz z1 z2 zs : List Int) (m : Nat) : List (List CallS) := (List.range m).map (t.callsR kz z1 z2 zs)
theorem TreeV.lvl_is (t : TreeV) (kz z1 z2 zs : List Int) (r : Nat) : t.lvlZ kz z1 z2 (t.leafZ kz z1 z2 zs) r = t.rowZ kz z1 z2 r (t.rtR kz z1 z2 zs r) (t.dataR kz z1 z2 zs r) (t.dataR kz z1 z2 zs r).length := by
 cases r <;> rfl
theorem TreeV.allC_succ (t : TreeV) (kz z1 z2 zs : List Int) (m : Nat) : t.allC kz z1 z2 zs (m + 1) = t.allC kz z1 z2 zs m ++ [t.callsR kz z1 z2 zs m] := by simp [TreeV.allC, List.range_succ]
theorem TreeV.allC_length (t : TreeV) (kz z1 z2 zs : List Int) (m : Nat) : (t.allC kz z1 z2 zs m).length = m := by simp [TreeV.allC]
theorem TreeV.dataR_facts {t : TreeV} (h : t.validE = 0) (hl : 0 ≤ t.l ∧ t.l ≤ 4294967295) (kz z1 z2 zs : List Int) (r : Nat) : 1 ≤ (t.dataR kz z1 z2 zs r).length ∧ (t.dataR kz z1 z2 zs r).length ≤ zs.length + 1 ∧ ∀ i, (nthL (t.dataR kz z1 z2 zs r) i).length ≤ 64 * (zs.length + 1) := by
 have hL := TreeV.leafZ_facts h hl kz z1 z2 zs
 have hln : 1 ≤ t.ln := by
  have := (TreeV.valid_facts h).2.2.2.2.2.2.2.2.1
  unfold TreeV.ln; omega
 cases r with
 | zero =>
  have h1 := cutZ_len zs hln
  exact ⟨h1.1, h1.2, fun i => by have := cutZ_nth (n := t.ln) zs i; show (nthL (cutZ t.ln zs) i).length ≤ _; omega⟩
 | succ r =>
  have hF := TreeV.lvlZ_facts h kz z1 z2 hL.1 hL.2.2 r
  have h1 := TreeV.upZ_len h (r + 1) hF.1
  refine ⟨h1.1, ?_, fun i => ?_⟩
  ·show (t.upZ (r + 1) _).length ≤ _; omega
  ·have h2 := TreeV.upZ_item t (r + 1) (t.lvlZ kz z1 z2 (t.leafZ kz z1 z2 zs) r) i
   have h3 := flatten_len64 hF.2.2
   show (nthL (t.upZ (r + 1) _) i).length ≤ _
   omega
/-- An element more behind a list of bytes' lists of one's own: where it lies then. -/
theorem wpList_pushB {ops : Array Oper} {rest : List Oper} {o : Oper} {a : Act} {Q : Exit → Act → World → Prop} {W : World} (hgd : o.guard = none) (s x : Operand)
  (ho : o.op = .call { callee := .builtin .append, args := #[s, x], argTypes := #[47, 47] }) (B : Nat) (v : Value) (L : List (List Int)) (z : List Int) (u : Value) (hs : a.eval s = v) (hl : ListO B W v L) (hz : OwnB B W u z)
  (hx : a.eval x = .slice (some ⟨W.heap.size, 0, none⟩) 1 1) (h63 : L.length ≤ 8388608) (hB : B ≤ W.heap.size)
  (h : ∀ v' w', ListO B w' v' (L ++ [z]) → KB B W w' → Spare (fun k => v.ownBlock ≠ some k) W w' → (v'.ownBlock = v.ownBlock ∨ ∀ g, v'.ownBlock = some g → W.heap.size ≤ g) → wpList Try.prog ops Q rest (a.put o.dst v') w') : wpList Try.prog ops Q (o :: rest) a (W.alloc (.cells #[u] 24)) := by
 obtain ⟨ib, hib, hzb, hsb, hbb⟩ := info_parts info_bytes
 obtain ⟨vs, hown, hxs⟩ := hl
 have hvl : vs.length = L.length := by have := hown.1; simpa using this
 refine wpList_append_own_at _ hgd s x _ ho B 24 ib (.slice none 0 0) 1 24 Try.underlying47 hib hzb hsb hbb rfl (by decide) v L.length vs hs (hown.alloc _) ⟨W.heap.size, 0, none⟩ 1 1 [u] hx rfl (cell_one_new W u _) (by simpa using hz.one) (by unfold maxLen; omega) (by omega) (by simp; omega) fun v' w' h2 h3 _ h5 => ?_
 have hsp : Spare (fun k => v.ownBlock ≠ some k) W w' := (Spare.of_below _ ((Below.refl _ _).alloc (Nat.le_refl _) _)).trans (Spare.of_grown h3) (fun _ _ h => h)
 have hkb : KB B W w' := ⟨hsp.os, hsp.tape, hsp.output, hsp.size, fun k hk => hsp.block k (by omega) (fun e2 => by
   rcases hown.2 with ⟨rfl, -⟩ | ⟨g, cap, cur, rfl, h4, -⟩
   ·cases e2
   ·simp only [Value.ownBlock, Option.some.injEq] at e2; omega), fun k c hc => by
   rw [hsp.block k (Array.getElem?_eq_some_iff.1 hc).1 (fun e2 => ?_)]
   ·exact hc
   ·rcases hown.2 with ⟨rfl, -⟩ | ⟨g, cap, cur, rfl, -, h5, -⟩
    ·cases e2
    ·simp only [Value.ownBlock, Option.some.injEq] at e2
     subst e2
     rw [h5] at hc
     simp only [Option.some.injEq, Obj.cells.injEq] at hc
     exact absurd hc.2.1 (by decide)⟩
 refine h v' w' (ListO.snoc (w := W) (vs := vs) hxs hvl hz h2 hkb) hkb hsp ?_
 rcases h5 with h5 | h5
 ·exact .inl h5
 ·exact .inr fun g hg => by rw [h5] at hg; simp only [World.alloc, Array.size_push, Option.some.injEq] at hg; omega
theorem rows_see {t : TreeV} {kz z1 z2 zs : List Int} {w0 : World} {fk bl : Nat} {I : List (List CallS) → List CallS → (Nat → Prop) → World → Prop} (hS : Seer t kz z1 z2 w0 fk bl I) (hT : TreeOk t kz z1 z2 w0) (hn : zs.length ≤ 4194304) (v : Value) (w : World) (F0 : Nat → Prop)
  (hw : Below w0.heap.size w0 w) (hI : I [] [] F0 w) (hv : ListO w0.heap.size w v (cutZ t.ln zs)) (hvF : ∀ g, v.ownBlock = some g → ¬ F0 g) (hcf : ∀ (args : Array Value) (W : World), (callFunc fk args).run Try.prog W = .ok (.enter fk args) W) :
  Calls Try.prog 14 #[t.val, v, .func (.func fk) #[] #[.pointer (some ⟨bl, 0, none⟩)]] w fun e w' => e = .returned (.tuple #[]) ∧ (∃ R F', t.topAt kz z1 z2 (t.leafZ kz z1 z2 zs) R ∧ I (t.allC kz z1 z2 zs R) (t.callsR kz z1 z2 zs R) F' w' ∧ ∀ k, F' k → F0 k ∨ w.heap.size ≤ k) ∧ Below w0.heap.size w w' ∧ Tend F0 w w' := by
 obtain ⟨b0, hb0⟩ : ∃ b0, w.heap.size = b0 := ⟨_, rfl⟩
 have hw0 : w0.heap.size ≤ b0 := by have := hw.size; omega
 have HS := hid hS
 have HT := hid hT
 have HW := hid hw
 have HI := hid hI
 have HV := hid hv
 have HVF := hid hvF
 have HF0 := hid (fun k hk => hS.lt hI k hk)
 have HDF := hid (fun r => TreeV.dataR_facts hT.v hT.l kz z1 z2 zs r)
 have hLF := TreeV.leafZ_facts hT.v hT.l kz z1 z2 zs
 have HLF := hid (TreeV.lvlZ_facts hT.v kz z1 z2 hLF.1 hLF.2.2)
 have HLEN := hid hLF.2.1
 have hp : 2 ≤ t.p ∧ t.p ≤ 255 := ⟨(TreeV.valid_facts hT.v).2.2.2.2.2.2.1, (TreeV.valid_facts hT.v).2.2.2.2.2.2.2.1⟩
 obtain ⟨va, vc, rfl, hvc1, hvc2, -⟩ := hv.hold
 have hbA : Below b0 w (w.alloc (.cells #[.int .i64 t.k, .int .i64 t.d, .int .i64 t.f, .int .i64 t.p, .int .u32 t.l, .int .i64 t.i, .slice t.ka t.kl t.kc, .slice t.sa t.sl t.sc, .slice t.pa t.pl t.pc] 26)) := by rw [← hb0]; exact (Below.refl _ _).alloc (Nat.le_refl _) _
 have hrA := World.alloc_heap_new w (.cells #[.int .i64 t.k, .int .i64 t.d, .int .i64 t.f, .int .i64 t.p, .int .u32 t.l, .int .i64 t.i, .slice t.ka t.kl t.kc, .slice t.sa t.sl t.sc, .slice t.pa t.pl t.pc] 26)
 rw [hb0] at hrA
 clear hS hT hw hI hv hvF hLF
 unfold TreeV.val
 go_enter Try.func14, Try.ntmps14
 go_upto_region 1 with (fail)
 generalize w.alloc (.cells #[.int .i64 t.k, .int .i64 t.d, .int .i64 t.f, .int .i64 t.p, .int .u32 t.l, .int .i64 t.i, .slice t.ka t.kl t.kc, .slice t.sa t.sl t.sc, .slice t.pa t.pl t.pc] 26) = wA at *
 have HRA := hid hrA
 have HBA := hid hbA
 have hsA : b0 < wA.heap.size := (Array.getElem?_eq_some_iff.1 hrA).1
 clear hrA hbA
 go_wp2_with fail
 go_loopw [1, 6, 7] (fun d rt i wr => ∃ (r : Nat) (F : Nat → Prop), i = .int .i64 (r : Nat) ∧ (r : Int) ≤ t.p - 1 ∧ rt = .bool (t.rtR kz z1 z2 zs r) ∧ ListO w0.heap.size wr d (t.dataR kz z1 z2 zs r) ∧ (∀ g, d.ownBlock = some g → ¬ F g) ∧ I (t.allC kz z1 z2 zs r) [] F wr ∧ (∀ k, F k → F0 k ∨ b0 < k) ∧
   (∀ q', 1 ≤ q' → q' < r → t.rootZ q' (t.lvlZ kz z1 z2 (t.leafZ kz z1 z2 zs) (q' - 1)).length = false) ∧ Below w0.heap.size w wr ∧ Tend F0 w wr ∧ wr.heap[b0]? = some (.cells #[.int .i64 t.k, .int .i64 t.d, .int .i64 t.f, .int .i64 t.p, .int .u32 t.l, .int .i64 t.i, .slice t.ka t.kl t.kc, .slice t.sa t.sl t.sc, .slice t.pa t.pl t.pc] 26 (0, 0))) (fun _ _ i _ => 256 - (intOf i).toNat)
 case atStart =>
  have hk0 : KB 0 w wA := KB.of_below (hb0 ▸ HBA.out) (Nat.zero_le _)
  exact ⟨0, F0, rfl, by omega, rfl, HV.out.below (hb0 ▸ HBA.out), HVF.out, HS.out.keep HI.out (HBA.out.mono hw0) (fun k hk => HBA.out.block k (by have := (HF0.out k hk).2; omega)) hk0.bytes, fun k hk => .inl hk, fun q' h1 h2 => by omega, HBA.out.mono hw0, ⟨Spare.of_below _ (hb0 ▸ HBA.out), hk0.bytes⟩, HRA.out⟩
 case round =>
  obtain ⟨r, F, rfl, hrp, rfl, hd, hdF, hIr, hFF, hno, hb, ht, hrr⟩ := hrel
  rename World => wq
  have hwq : Below w0.heap.size w0 wq := HW.out.trans hb
  obtain ⟨d1, d2, d3⟩ := HDF.out r
  have hLR := t.lvl_is kz z1 z2 zs r
  have hCR : t.callsR kz z1 z2 zs r = t.rowC kz z1 z2 r (t.rtR kz z1 z2 zs r) (t.dataR kz z1 z2 zs r) (t.dataR kz z1 z2 zs r).length := rfl
  have hRT : ∀ b, t.rtR kz z1 z2 zs r = b → (b = true → 1 ≤ r ∧ t.rootZ r (t.lvlZ kz z1 z2 (t.leafZ kz z1 z2 zs) (r - 1)).length = true) ∧ (b = false → 1 ≤ r → t.rootZ r (t.lvlZ kz z1 z2 (t.leafZ kz z1 z2 zs) (r - 1)).length = false) := by
   intro b hb
   subst hb
   cases r with
   | zero => exact ⟨(fun h => by cases h), (fun _ h => by omega)⟩
   | succ r => exact ⟨fun h => ⟨by omega, h⟩, fun h _ => h⟩
  have HRT := hid hRT
  have HLR := hid hLR
  have HCR := hid hCR
  have HUP := hid (show ∀ q, q = r + 1 → t.dataR kz z1 z2 zs q = t.upZ q (t.lvlZ kz z1 z2 (t.leafZ kz z1 z2 zs) r) ∧ t.rtR kz z1 z2 zs q = t.rootZ q (t.lvlZ kz z1 z2 (t.leafZ kz z1 z2 zs) r).length from fun q hq => by subst hq; exact ⟨rfl, rfl⟩)
  have HLVF := hid (HLF.out r)
  have HCL := hid (show ∀ l ∈ t.allC kz z1 z2 zs r, l.length ≤ 8388608 from fun l hl => by
   obtain ⟨q, -, rfl⟩ := List.mem_map.1 hl
   have := (HDF.out q).2.1
   show (t.rowC _ _ _ _ _ _ _).length ≤ _
   rw [TreeV.rowC_length]; omega)
  have HAL := hid (t.allC_length kz z1 z2 zs r)
  have HAS := hid (t.allC_succ kz z1 z2 zs r)
  generalize t.dataR kz z1 z2 zs r = D at *
  generalize t.rtR kz z1 z2 zs r = rt at *
  generalize hCRE : t.callsR kz z1 z2 zs r = CR at *
  generalize hACE : t.allC kz z1 z2 zs r = AC at *
  have HCRE := hid hCRE
  have HACE := hid hACE
  clear hCRE hACE
  obtain ⟨dg, dc, dx, rfl, hdg, -, -⟩ := hd.get (i := 0) (by omega)
  have hdF' : ¬ F dg := hdF dg rfl
  have hFb0 : ¬ F b0 := fun h => by
   rcases hFF b0 h with h2 | h2
   ·have := (HF0.out b0 h2).2; omega
   ·omega
  obtain ⟨bN, hbN⟩ : ∃ bN, wq.heap.size = bN := ⟨_, rfl⟩
  have hbb : b0 < bN := by rw [← hbN]; exact (Array.getElem?_eq_some_iff.1 hrr).1
  have HD := hid hd
  have HIR := hid hIr
  have HFF := hid hFF
  have HNO := hid hno
  have HB := hid hb
  have HTD := hid ht
  have HRR := hid hrr
  have HWQ := hid hwq
  have HDX := hid d3
  have hDn : D.length ≤ 4194305 := by omega
  have hDi : (D.length : Int) ≤ 9223372036854775807 := by omega
  clear hd hdF hIr hFF hno hb ht hrr hwq hLR hCR hRT d3 d2
  go_wp2_with fail
  go_loopw [8, 15] (fun s i wr => ∃ (j : Nat) (F' : Nat → Prop), i = .int .i64 (j : Nat) ∧ j ≤ D.length ∧ ListO bN wr s (t.rowZ kz z1 z2 r rt D j) ∧ (∀ g, s.ownBlock = some g → ¬ F' g) ∧ I AC (t.rowC kz z1 z2 r rt D j) F' wr ∧ (∀ k, F' k → F k ∨ bN ≤ k) ∧ ListO w0.heap.size wr (.slice (some ⟨dg, 0, none⟩) D.length dc) D ∧ Below w0.heap.size w wr ∧ Tend F0 w wr ∧ wr.heap[b0]? = some (.cells #[.int .i64 t.k, .int .i64 t.d, .int .i64 t.f, .int .i64 t.p, .int .u32 t.l, .int .i64 t.i, .slice t.ka t.kl t.kc, .slice t.sa t.sl t.sc, .slice t.pa t.pl t.pc] 26 (0, 0)) ∧ bN ≤ wr.heap.size) (fun _ i _ => D.length - (intOf i).toNat)
  case atStart => exact ⟨0, F, rfl, Nat.zero_le _, ListO.nil _ _, (fun g h => by cases h), HIR.out, fun k h => .inl h, HD.out, HB.out, HTD.out, HRR.out, by omega⟩
  case round =>
   obtain ⟨j, F', rfl, hj, ho, hoF, hI, hFF', hd, hb, ht, hrr, hbr⟩ := hrel
   by_cases hlt : j < D.length
   case pos =>
    have hlt2 : (j : Int) < D.length := by omega
    obtain ⟨g1, c1, x, e, hg1, hx, hxo⟩ := hd.get hlt
    simp only [Value.slice.injEq, Option.some.injEq, Addr.mk.injEq, and_true, true_and] at e
    obtain ⟨rfl, rfl⟩ := e
    obtain ⟨xb, xd, rfl, -, -⟩ := hxo.hold.slice
    have HXO := hid hxo
    have HXL := hid (HDX.out j)
    obtain ⟨ql, hql⟩ : ∃ q : Bool, decide (j + 1 = D.length) = q := ⟨_, rfl⟩
    have hla : ((j : Int) == (D.length : Int) - 1) = ql := by
     rw [← hql, Bool.eq_iff_iff, beq_iff_eq, decide_eq_true_eq]; omega
    have HQL := hid hql
    have hju : IntKind.u64.wrap (j : Int) = (j : Int) := u64_wrap_id _ (by omega) (by omega)
    have HO := hid ho
    have HOF := hid hoF
    have HI2 := hid hI
    have HFF2 := hid hFF'
    have HD2 := hid hd
    have HB2 := hid hb
    have HT2 := hid ht
    have HR2 := hid hrr
    have HWR := hid (HW.out.trans hb)
    have hw0r : w0.heap.size ≤ wr.heap.size := HWR.out.size
    have hTr := HT.out.below HWR.out
    have HTR := hid hTr
    obtain ⟨a8, c8, rfl, -, -, -⟩ := ho.hold
    have HSL := hid (HS.out.lt hI)
    clear hxo hql ho hoF hI hFF' hd hb ht hrr hTr
    go_wp2_with ((with_reducible show wpList _ _ _ (Oper.mk _ (Op.load 26 _) _ _ _ _ :: _) _ _); refine wpList_load_row rfl 26 _ rfl b0 rfl _ _ _ _ HR2.out Try.underlying26 rfl (by kernel_rfl) ?_)
    refine (treeCall_ok t HTR.out.v HTR.out.l z1 z2 kz r j (by omega) (by omega) ql rt xb (nthL D j).length xd wr HTR.out.s HTR.out.p HTR.out.k).mono ?_; rintro e w4 ⟨bv, kv, rfl, hbo, hko, hb4⟩
    have hs4 := hb4.size
    have hk4 := KB.of_below hb4 hbr
    have HI4 := hid (HS.out.keep HI2.out (hb4.mono hw0r) (fun k hk => hb4.block k (HSL.out k hk).2) hk4.bytes)
    have HX4 := hid (HXO.out.kb hk4)
    have HO4 := hid (HO.out.below hb4)
    have HD4 := hid (HD2.out.below hb4)
    have HR4 := hid (rowStay HR2.out hb4)
    have HW4 := hid (HWR.out.trans (hb4.mono hw0r))
    have HB4 := hid (HB2.out.trans (hb4.mono hw0r))
    have HT4 := hid (show Tend F0 w w4 from ⟨HT2.out.sp.trans (Spare.of_below (fun k => ¬ F0 k) hb4) (fun _ _ h => h), fun k c h => hk4.bytes k c (HT2.out.bytes k c h)⟩)
    have HSE := hid (HS.out.see (la := ql) (rt := rt) HI4.out HAL.out (by omega) (show j ≤ 8388608 by omega) HCL.out (by rw [TreeV.rowC_length]; omega) HW4.out (ownsRow_le hbo hw0r) (ownsRow_le hko hw0r) HX4.out (by have := HXL.out; omega))
    have HLT4 := hid (HS.out.lt HI4.out)
    clear hbo hko hk4 hb4
    go_wp2_with fail
    refine HSE.out.mono ?_; rintro e w5 ⟨u, F5, rfl, hu, hF5, hI5, ht5⟩
    obtain ⟨u1, u3, rfl, -, -⟩ := hu.hold.slice
    have hs5 := ht5.sp.size
    have hbl : ∀ g, (Value.slice a8 (t.rowZ kz z1 z2 r rt D j).length c8).ownBlock = some g → g < wr.heap.size := HO.out.block_lt
    have hk5 : KB w0.heap.size w4 w5 := ⟨ht5.sp.os, ht5.sp.tape, ht5.sp.output, ht5.sp.size, fun k hk => ht5.sp.block k (by omega) (fun h => by have := (HLT4.out k h).1; omega), ht5.bytes⟩
    have HO5 := hid (HO4.out.tend ht5.bytes (fun g hg => ht5.sp.block g (by have := hbl g hg; omega) (HOF.out g hg)))
    have hdgF : ¬ F' dg := fun h => by
     rcases HFF2.out dg h with h2 | h2
     ·exact hdF' h2
     ·omega
    have hb0F : ¬ F' b0 := fun h => by
     rcases HFF2.out b0 h with h2 | h2
     ·exact hFb0 h2
     ·omega
    have HD5 := hid (HD4.out.tend ht5.bytes (fun g hg => by
     simp only [Value.ownBlock, Option.some.injEq] at hg
     subst hg
     exact ht5.sp.block dg (by omega) hdgF))
    have HR5 := hid ((ht5.sp.block b0 (by omega) hb0F).trans HR4.out)
    have HU5 := hid (hu.le (show bN ≤ w4.heap.size by omega))
    have HF5 := hid (show ∀ k, F5 k → F k ∨ bN ≤ k from fun k hk => by
     rcases hF5 k hk with h | h
     ·exact HFF2.out k h
     ·exact .inr (by omega))
    have HOF5 := hid (show ∀ g, (Value.slice a8 (t.rowZ kz z1 z2 r rt D j).length c8).ownBlock = some g → ¬ F5 g from fun g hg h => by
     rcases hF5 g h with h2 | h2
     ·exact HOF.out g hg h2
     ·have := hbl g hg; omega)
    have HI5 := hid hI5
    have HB5 := hid (HB4.out.trans hk5.below)
    have HT5 := hid (show Tend F0 w w5 from ⟨HT4.out.sp.trans ht5.sp (fun k hk h h2 => by
     rcases HFF2.out k h2 with h3 | h3
     ·rcases HFF.out k h3 with h4 | h4
      ·exact h h4
      ·omega
     ·omega), fun k c h => ht5.bytes k c (HT4.out.bytes k c h)⟩)
    have HLT5 := hid (HS.out.lt hI5)
    have hNd : t.node kz z1 z2 r j ql rt (nthL D j) = t.node kz z1 z2 r j (decide (j + 1 = D.length)) rt (nthL D j) := by rw [HQL.out]
    have hCd : t.callS kz z1 z2 r j ql rt (nthL D j) = t.callS kz z1 z2 r j (decide (j + 1 = D.length)) rt (nthL D j) := by rw [HQL.out]
    have HND := hid hNd
    have HCD := hid hCd
    have hrl := t.rowZ_length kz z1 z2 r rt D j
    have HRL := hid hrl
    generalize t.node kz z1 z2 r j ql rt (nthL D j) = ND at *
    generalize t.callS kz z1 z2 r j ql rt (nthL D j) = CD at *
    rw [hrl] at HO5 HOF5 ⊢
    clear hu hF5 hI5 ht5 hk5 hNd hCd hrl HSE HO HOF HO4 HD4 HI4 hbl hdgF hb0F
    go_wp2_with (first | ((with_reducible show wpList _ _ _ (Oper.mk _ (Op.buildSlice _ _ _) _ _ _ _ :: _) _ _); refine wpList_build1 rfl _ rfl _ _ _ rfl ?_) | (at_builtin; refine wpList_pushB rfl _ _ rfl bN (.slice a8 j c8) (t.rowZ kz z1 z2 r rt D j) ND (.slice u1 ND.length u3) rfl HO5.out HU5.out rfl (by rw [HRL.out]; omega) (by omega) ?_; intro v' w' hlo' hkb' hsp' hat'))
    have hs6 := hkb'.size
    have hB6 : Below w0.heap.size w5 w' := hkb'.below.mono (by omega)
    have hF6 : ∀ k, F5 k → w'.heap[k]? = w5.heap[k]? := fun k hk => hsp'.block k (HLT5.out k hk).2 (fun e => HOF5.out k e hk)
    refine ⟨⟨j + 1, F5, rfl, by omega, ?_, ?_, ?_, HF5.out, ?_, HB5.out.trans hB6, ⟨HT5.out.sp.trans (T := fun k => k < bN) ⟨hkb'.os, hkb'.tape, hkb'.output, hkb'.size, fun k _ hk => hkb'.block k hk⟩ (fun k hk _ => by omega), fun k c h => hkb'.bytes k c (HT5.out.bytes k c h)⟩, ?_, by omega⟩, by simp [intOf]; omega⟩
    ·rw [TreeV.rowZ_succ, ← HND.out]; exact hlo'
    ·intro g hg h
     rcases hat' with h2 | h2
     ·rw [h2] at hg; exact HOF5.out g hg h
     ·have := h2 g hg; have := (HLT5.out g h).2; omega
    ·rw [TreeV.rowC_succ, ← HCD.out]
     exact HS.out.keep HI5.out hB6 hF6 hkb'.bytes
    ·exact HD5.out.tend hkb'.bytes (fun g hg => by
      simp only [Value.ownBlock, Option.some.injEq] at hg
      subst hg
      exact hkb'.block dg (by omega))
    ·exact (hkb'.block b0 (by omega)).trans HR5.out
   obtain rfl : j = D.length := by omega
   rw [← HCR.out] at hI
   rw [← HLR.out] at ho
   obtain ⟨a8, c8, rfl, ho2, ho3, -⟩ := id ho.hold
   have HO := hid ho
   have HI2 := hid hI
   have HFF2 := hid (show ∀ k, F' k → F0 k ∨ b0 < k from fun k hk => by
    rcases hFF' k hk with h | h
    ·exact HFF.out k h
    ·exact .inr (by omega))
   have HB2 := hid hb
   have HT2 := hid ht
   have HLT := hid (HS.out.lt hI)
   clear ho hoF hI hFF' hd hb ht
   cases rt
   case true =>
    go_wp2_with fail
    exact bodyPost_ret (results_none rfl _ _ _) rfl ⟨rfl, ⟨r, F', ⟨((HRT.out true rfl).1 rfl).1, ((HRT.out true rfl).1 rfl).2, HNO.out⟩, by rw [HACE.out, HCRE.out]; exact HI2.out, fun k hk => by
     rcases HFF2.out k hk with h | h
     ·exact .inl h
     ·exact .inr (by omega)⟩, HB2.out, HT2.out⟩
   case false =>
    obtain ⟨l1, l2, l3⟩ := HLVF.out
    have hfl := flatten_len64 l3
    have hle := HLEN.out
    have HRZ := hid ((HRT.out false rfl).2 rfl)
    have HAB := hid (above_ok t HT.out.v (r + 1) (by omega) _ _ wr HO.out.hold (by omega) (by omega) l1)
    have hjw : IntKind.i64.wrap ((r : Int) + 1) = ((r + 1 : Nat) : Int) := by rw [IntKind.wrap_i64] <;> omega
    have hr1 : ((r : Int) + 1) ≤ t.p - 1 := by
     by_cases h0 : r = 0
     ·omega
     ·by_cases h1 : (r : Int) = t.p - 1
      ·have h2 := HRZ.out (by omega)
       rw [TreeV.rootZ_last h1] at h2
       cases h2
      ·omega
    have hcr1 : CR ≠ [] := by
     rw [HCR.out]
     exact List.length_pos_iff.1 (by rw [TreeV.rowC_length]; omega)
    have HCR1 := hid hcr1
    obtain ⟨HU1, HU2⟩ := HUP.out (r + 1) rfl
    have HU1 := hid HU1
    have HU2 := hid HU2
    generalize t.lvlZ kz z1 z2 (t.leafZ kz z1 z2 zs) r = LZ at *
    obtain ⟨M, hM⟩ : ∃ M, LZ.length = M := ⟨_, rfl⟩
    rw [hM] at HAB HU2 ⊢
    clear l1 l2 l3 hfl hle hcr1 ho2 ho3 hM
    go_wp2_with ((with_reducible show wpList _ _ _ (Oper.mk _ (Op.load 26 _) _ _ _ _ :: _) _ _); refine wpList_load_row rfl 26 _ rfl b0 rfl _ _ _ _ hrr Try.underlying26 rfl (by kernel_rfl) ?_)
    refine HAB.out.mono ?_; rintro e w9 ⟨u, rfl, hu, hb9⟩
    have hs9 := hb9.size
    have hk9 := KB.of_below hb9 (Nat.zero_le _)
    have hw0r : w0.heap.size ≤ wr.heap.size := by have := (HW.out.trans HB2.out).size; omega
    have HB9 := hid hb9
    have HR9 := hid (rowStay hrr hb9)
    have HU9 := hid hu
    obtain ⟨ua, uc, rfl, -, -, -⟩ := id hu.hold
    have HUB := hid (show ∀ g, (Value.slice ua (t.upZ (r + 1) LZ).length uc).ownBlock = some g → wr.heap.size ≤ g from fun g hg => by
     obtain ⟨vs, hvo, -⟩ := hu
     rcases hvo.2 with ⟨e, -⟩ | ⟨g', cap, cur, e, h1, -⟩
     ·simp only [Value.slice.injEq] at e
      rw [e.1] at hg; cases hg
     ·simp only [Value.slice.injEq] at e
      rw [e.1] at hg
      simp only [Value.ownBlock, Option.some.injEq] at hg
      omega)
    clear hu hb9
    go_wp2_with fail
    refine ⟨⟨r + 1, F', rfl, by omega, by rw [HU2.out], by rw [HU1.out]; exact HU9.out.le hw0r, fun g hg h => by have := HUB.out g hg; have := (HLT.out g h).2; omega, ?_, HFF2.out, fun q' h1 h2 => ?_, HB2.out.trans (HB9.out.mono hw0r), ⟨HT2.out.sp.trans (Spare.of_below (fun k => ¬ F0 k) HB9.out) (fun _ _ h => h), fun k c h => hk9.bytes k c (HT2.out.bytes k c h)⟩, HR9.out⟩, by simp [intOf]; omega⟩
    ·rw [HAS.out]
     exact HS.out.keep (HS.out.next HCR1.out HI2.out) (HB9.out.mono hw0r) (fun k hk => HB9.out.block k (HLT.out k hk).2) hk9.bytes
    ·by_cases hq : q' = r
     ·subst hq; exact HRZ.out h1
     ·exact HNO.out q' h1 (by omega)
end Go.Proofs.Ytahenngmaoellaa
