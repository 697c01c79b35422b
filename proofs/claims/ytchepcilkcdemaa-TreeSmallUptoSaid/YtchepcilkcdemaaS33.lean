/- Lists of bytes in memory; all of them, one behind the other. No condition. -/
import Derived.Test.YtchepcilkcdemaaS26
import Derived.Test.YtchepcilkcdemaaS22
import Derived.Great.BuildSlice
import Derived.Test.YtchepcilkcdemaaS04
import Derived.Laws.CopyOwn
import Derived.Test.YtchepcilkcdemaaS31
import Derived.Test.YtchepcilkcdemaaS24
import Derived.Test.YtchepcilkcdemaaS15
import Derived.Test.YtchepcilkcdemaaS18
import Derived.Test.YtchepcilkcdemaaS17
set_option linter.all false
set_option maxRecDepth 100000
set_option maxHeartbeats 8000000
namespace Go.Proofs.Ytchepcilkcdemaa
open Go.ChangeShapes Go.WideShapes Go.ChangeAt Go.RowKit Go.Joins Go.Shelf Go.Maps
open Go.Lib (hid)
attribute [local go_sem] Oper.semAt_some
/-- The world grows; what lies below B, and all bytes, stay. -/
structure KB (B : Nat) (w w' : World) : Prop where
 os : w'.os = w.os
 tape : w'.tape = w.tape
 output : w'.output = w.output
 size : w.heap.size ≤ w'.heap.size
 block : ∀ k : Nat, k < B → w'.heap[k]? = w.heap[k]?
 bytes : ∀ (k : Nat) (c : Array Value), w.heap[k]? = some (.cells c 5 (0, 0)) → w'.heap[k]? = some (.cells c 5 (0, 0))
namespace KB
variable {B : Nat} {w w' w'' : World}
theorem refl (B : Nat) (w : World) : KB B w w := ⟨rfl, rfl, rfl, Nat.le_refl _, fun _ _ => rfl, fun _ _ h => h⟩
theorem trans (h : KB B w w') (k : KB B w' w'') : KB B w w'' := ⟨k.os.trans h.os, k.tape.trans h.tape, k.output.trans h.output, Nat.le_trans h.size k.size, fun j hj => (k.block j hj).trans (h.block j hj), fun j c hc => k.bytes j c (h.bytes j c hc)⟩
theorem of_below (h : Below w.heap.size w w') (hB : B ≤ w.heap.size) : KB B w w' := ⟨h.os, h.tape, h.output, h.size, fun k hk => h.block k (by omega), fun k c hc => (h.block k (Array.getElem?_eq_some_iff.1 hc).1).trans hc⟩
theorem of_but {g : Nat} {c : Array Value} {T : TypeId} {fr : Nat × Nat} (h : But g w w') (hB : B ≤ w.heap.size) (hg : B ≤ g) (hc : w.heap[g]? = some (.cells c T fr)) (hT : T ≠ 5) : KB B w w' :=
 ⟨h.os, h.tape, h.output, h.size, fun k hk => h.block k (by omega) (by omega), fun k c' hc' => by
  rw [h.block k (Array.getElem?_eq_some_iff.1 hc').1 ?_]; exact hc'
  rintro rfl
  rw [hc] at hc'
  simp only [Option.some.injEq, Obj.cells.injEq] at hc'
  exact hT hc'.2.1⟩
theorem below (h : KB B w w') : Below B w w' := ⟨h.os, h.tape, h.output, h.size, h.block⟩
end KB
theorem Fresh.kb {B b : Nat} {w w' : World} {x : Value} {z : List Int} (h : Fresh B w x z) (k : KB b w w') : Fresh B w' x z := by
 rcases h with h | ⟨g, cap, cur, e, h1, h2, h3⟩
 ·exact .inl h
 ·exact .inr ⟨g, cap, cur, e, h1, k.bytes _ _ h2, h3⟩
theorem fresh_of_own {B n : Nat} {w : World} {x : Value} {z : List Int} (h : w.ownsRow B 5 1 x n (z.map encB)) : Fresh B w x z := by
 have hl : z.length = n := by have := h.1; simpa using this
 rcases h.2 with ⟨rfl, h0⟩ | ⟨g, cap, cur, rfl, h1, h2, h3, h4, h5, h6⟩
 ·exact .inl ⟨List.eq_nil_of_length_eq_zero (by omega), rfl⟩
 ·exact .inr ⟨g, cap, cur, by rw [hl], h1, h2, by omega, by omega, h4, by rw [hl]; simpa using h6⟩
theorem own_kb {B b n : Nat} {w w' : World} {x : Value} {xs : List Value} (h : w.ownsRow B 5 1 x n xs) (k : KB b w w') : w'.ownsRow B 5 1 x n xs := by
 refine ⟨h.1, ?_⟩
 rcases h.2 with h2 | ⟨g, cap, cur, e, h1, h2, h3⟩
 ·exact .inl h2
 ·exact .inr ⟨g, cap, cur, e, h1, k.bytes _ _ h2, h3⟩
/-- Bytes of one's own. -/
def OwnB (B : Nat) (w : World) (x : Value) (z : List Int) : Prop := (∀ a ∈ z, 0 ≤ a ∧ a ≤ 255) ∧ Fresh B w x z
theorem OwnB.kb {B b : Nat} {w w' : World} {x : Value} {z : List Int} (h : OwnB B w x z) (k : KB b w w') : OwnB B w' x z := ⟨h.1, h.2.kb k⟩
theorem OwnB.hold {B : Nat} {w : World} {x : Value} {z : List Int} (h : OwnB B w x z) : Hold w x z := h.2.hold h.1
theorem OwnB.le {B b : Nat} {w : World} {x : Value} {z : List Int} (h : OwnB B w x z) (hb : b ≤ B) : OwnB b w x z := ⟨h.1, h.2.le hb⟩
theorem OwnB.one {B : Nat} {w : World} {x : Value} {z : List Int} (h : OwnB B w x z) : x.oneCell' = true := by
 rcases h.2 with ⟨-, rfl⟩ | ⟨g, cap, cur, rfl, -⟩ <;> rfl
/-- The i-th of a list of bytes. -/
def nthL (L : List (List Int)) (i : Nat) : List Int := L.getD i []
/-- A list of bytes of one's own: a row of one's own. -/
def ListO (B : Nat) (w : World) (v : Value) (L : List (List Int)) : Prop :=
 ∃ vs, w.ownsRow B 24 1 v L.length vs ∧ ∀ i, i < L.length → OwnB B w (vs.getD i undef) (nthL L i)
/-- A slice of slices of bytes that can be read. -/
def ListH (w : World) (v : Value) (L : List (List Int)) : Prop :=
 ∃ a cap, v = .slice a L.length cap ∧ L.length ≤ cap ∧ (cap : Int) ≤ 9223372036854775807 ∧ (L = [] ∨ ∃ g off, a = some ⟨g, off, none⟩ ∧ g < w.heap.size ∧ ∀ i, i < L.length → ∃ x, w.cell? ⟨g, off + i, none⟩ = some x ∧ Hold w x (nthL L i))
theorem ListO.hold {B : Nat} {w : World} {v : Value} {L : List (List Int)} (h : ListO B w v L) : ListH w v L := by
 obtain ⟨vs, ho, hx⟩ := h
 have hl : vs.length = L.length := by have := ho.1; simpa using this
 rcases ho.2 with ⟨rfl, h0⟩ | ⟨g, cap, cur, rfl, h1, h2, h3, h4, h5, h6⟩
 ·exact ⟨none, 0, by rw [h0], by omega, by omega, .inl (List.eq_nil_of_length_eq_zero h0)⟩
 ·refine ⟨_, cap, rfl, h3, by unfold maxLen at h4; omega, .inr ⟨g, 0, rfl, (Array.getElem?_eq_some_iff.1 h2).1, fun i hi => ⟨vs.getD i undef, ?_, (hx i hi).hold⟩⟩⟩
  rw [cell_of_heap h2 (0 + i), Nat.zero_add]
  have e : cur.toList[i]? = vs[i]? := by rw [← h6, List.getElem?_take, if_pos (by omega)]
  rw [← Array.getElem?_toList, e, List.getD_eq_getElem?_getD, List.getElem?_eq_getElem (by omega)]; rfl
theorem ListH.below {w w' : World} {v : Value} {L : List (List Int)} (h : ListH w v L) (hb : Below w.heap.size w w') : ListH w' v L := by
 obtain ⟨a, cap, rfl, h1, h2, h3⟩ := h
 refine ⟨a, cap, rfl, h1, h2, ?_⟩
 rcases h3 with h3 | ⟨g, off, rfl, h4, h5⟩
 ·exact .inl h3
 ·refine .inr ⟨g, off, rfl, Nat.lt_of_lt_of_le h4 hb.size, fun i hi => ?_⟩
  obtain ⟨x, h6, h7⟩ := h5 i hi
  exact ⟨x, (hb.cell (p := ⟨g, off + i, none⟩) h4).trans h6, h7.below hb⟩
theorem nthL_mem {L : List (List Int)} {i : Nat} (hi : i < L.length) : nthL L i ∈ L := by
 unfold nthL; rw [List.getD_eq_getElem?_getD, List.getElem?_eq_getElem hi]; exact List.getElem_mem hi
theorem take_flat {L : List (List Int)} {k : Nat} (hk : k < L.length) : (L.take (k + 1)).flatten = (L.take k).flatten ++ nthL L k := by
 have e : L.take (k + 1) = L.take k ++ [nthL L k] := by
  unfold nthL
  rw [List.take_succ, List.getD_eq_getElem?_getD, List.getElem?_eq_getElem hk]; rfl
 rw [e, List.flatten_append]; simp
theorem flat_take_le (L : List (List Int)) (k : Nat) : (L.take k).flatten.length ≤ L.flatten.length := by
 conv => rhs; rw [← List.take_append_drop k L, List.flatten_append, List.length_append]
 omega
theorem joined_ok (L : List (List Int)) (v : Value) (w : World) (h : ListH w v L) (hn : L.flatten.length ≤ 70368744177664) :
  Calls Try.prog 41 #[v] w fun e w' => ∃ u, e = .returned u ∧ w'.ownsRow w.heap.size 5 1 u L.flatten.length (L.flatten.map encB) ∧ Below w.heap.size w w' := by
 obtain ⟨i0, hi, hz0, hz1, hz2⟩ := info_parts info_u8
 obtain ⟨b0, hb0⟩ : ∃ b0, w.heap.size = b0 := ⟨_, rfl⟩
 have HH := hid h
 obtain ⟨a, cap, rfl, hc1, hc2, -⟩ := h
 have hn2 : (L.length : Int) ≤ 9223372036854775807 := by omega
 have HN := hid hn
 clear hn
 go_enter Try.func41, Try.ntmps41
 go_wp2_with fail
 go_loopw [3, 8] (fun s i wr => ∃ k : Nat, i = .int .i64 (k : Nat) ∧ k ≤ L.length ∧ wr.ownsRow b0 5 1 s (L.take k).flatten.length ((L.take k).flatten.map encB) ∧ Below b0 w wr) (fun _ i _ => L.length - (intOf i).toNat)
 case atStart => exact ⟨0, rfl, Nat.zero_le _, World.ownsRow_nil _ _ _ _, Below.refl _ _⟩
 case round =>
  obtain ⟨k, rfl, hk, ho, hb⟩ := hrel
  by_cases hlt : k < L.length
  case pos =>
   obtain ⟨a', cap', e, -, -, h3⟩ := HH.out
   obtain ⟨g, off, rfl, h4, h5⟩ := h3.resolve_left (fun e => by rw [e] at hlt; simp at hlt)
   simp only [Value.slice.injEq] at e
   obtain ⟨rfl, -, -⟩ := e
   obtain ⟨x, hx, hxh⟩ := h5 k hlt
   have c0 : wr.cell? ⟨g, off + k, none⟩ = some x := (hb.cell (p := ⟨g, off + k, none⟩) (show g < b0 by omega)).trans hx
   have hg0 : g < wr.heap.size := by have := hb.size; omega
   have HX := hid (hxh.below (hb0 ▸ hb)).src
   have HO := hid ho
   have HB := hid hb
   have hfl := flat_take_le L (k + 1)
   rw [take_flat hlt, List.length_append] at hfl
   have HF := hid hfl
   have hlt2 : (k : Int) < L.length := by omega
   clear hx hxh h5 h4 h3 ho hb hfl
   go_wp2_with (at_builtin; refine wpList_append_now rfl _ _ _ rfl w b0 hb0.symm HB.out 5 i0 (.int .u8 0) 1 Try.underlying24 hi hz0 hz1 hz2 rfl _ _ _ rfl HO.out _ _ _ rfl HX.out (by have := HF.out; have := HN.out; unfold maxLen; omega) (by have := HF.out; have := HN.out; omega) ?_; intro v' w' hown' hb')
   refine ⟨⟨k + 1, rfl, by omega, ?_, hb'⟩, by simp [intOf]; omega⟩
   rw [take_flat hlt, List.length_append, List.map_append]; exact hown'
  obtain rfl : k = L.length := by omega
  rw [List.take_length] at ho
  have HO := hid ho
  have HB := hid hb
  clear ho hb
  go_wp2
  go_ret
  exact ⟨_, rfl, hb0 ▸ HO.out, hb0 ▸ HB.out⟩
/-- One element more behind a row of one's own: nothing else of it, and no bytes, turn. -/
theorem wpList_push {P : Program} {ops : Array Oper} {rest : List Oper} {o : Oper} {a : Act} {Q : Exit → Act → World → Prop} {W : World} (hgd : o.guard = none) (s x : Operand) (t : TypeId)
  (ho : o.op = .call { callee := .builtin .append, args := #[s, x], argTypes := #[t, t] }) (B : Nat) (e : TypeId) (he : e ≠ 5) (i : TypeInfo) (z : Value) (size bytes : Nat) (ht : P.underlying t = some (.slice e)) (hi : P.info? e = some i) (hz : i.zero = some z)
  (hsize : i.size = size) (hby : i.bytes = bytes) (hzs : z.cells.size = size) (hsz : 0 < size) (v : Value) (n : Nat) (xs us : List Value) (T : TypeId) (hs : a.eval s = v) (hown : W.ownsRow B e size v n xs)
  (hx : a.eval x = .slice (some ⟨W.heap.size, 0, none⟩) 1 1) (hl : us.length = size) (h1 : ∀ u ∈ us, u.oneCell' = true) (h63 : n + 1 ≤ maxLen) (hbytes : (n + 1) * bytes ≤ 140737488355328) (hB : B ≤ W.heap.size)
  (h : ∀ v' w', w'.ownsRow B e size v' (n + 1) (xs ++ us) → KB B W w' → Spare (fun k => v.ownBlock ≠ some k) W w' → wpList P ops Q rest (a.put o.dst v') w') : wpList P ops Q (o :: rest) a (W.alloc (.cells us.toArray T)) := by
 refine wpList_append_own _ hgd s x t ho B e i z size bytes ht hi hz hsize hby hzs hsz v n xs hs (hown.alloc _) ⟨W.heap.size, 0, none⟩ 1 1 us hx (by omega) (fun j u hj => ?_) h1 h63 hbytes (by simp; omega) fun v' w' h2 h3 _ => ?_
 ·rw [Go.WideShapes.add_plain, cell_of_heap (World.alloc_heap_new W _) (0 + j), Nat.zero_add]
  simpa using hj
 have hsp : Spare (fun k => v.ownBlock ≠ some k) W w' := (Spare.of_below _ ((Below.refl _ _).alloc (Nat.le_refl _) _)).trans (Spare.of_grown h3) (fun _ _ h => h)
 refine h v' w' h2 ⟨hsp.os, hsp.tape, hsp.output, hsp.size, fun k hk => hsp.block k (by omega) (fun e2 => ?_), fun k c hc => ?_⟩ hsp
 ·rcases hown.2 with ⟨rfl, -⟩ | ⟨g, cap, cur, rfl, h4, -⟩
  ·cases e2
  ·simp only [Value.ownBlock, Option.some.injEq] at e2; omega
 ·rw [hsp.block k (Array.getElem?_eq_some_iff.1 hc).1 (fun e2 => ?_)]
  ·exact hc
  ·rcases hown.2 with ⟨rfl, -⟩ | ⟨g, cap, cur, rfl, -, h5, -⟩
   ·cases e2
   ·simp only [Value.ownBlock, Option.some.injEq] at e2
    subst e2
    rw [h5] at hc
    simp only [Option.some.injEq, Obj.cells.injEq] at hc
    exact he hc.2.1
theorem ListO.nil (B : Nat) (w : World) : ListO B w (.slice none 0 0) [] := ⟨[], World.ownsRow_nil _ _ _ _, fun i hi => by simp at hi⟩
theorem ListO.kb {B b : Nat} {w w' : World} {v : Value} {L : List (List Int)} (h : ListO B w v L) (k : KB b w w') (hs : ∀ g, v.ownBlock = some g → w'.heap[g]? = w.heap[g]?) : ListO B w' v L := by
 obtain ⟨vs, ho, hx⟩ := h
 refine ⟨vs, ⟨ho.1, ?_⟩, fun i hi => (hx i hi).kb k⟩
 rcases ho.2 with h2 | ⟨g, cap, cur, rfl, h1, h2, h3⟩
 ·exact .inl h2
 ·exact .inr ⟨g, cap, cur, rfl, h1, (hs g rfl).trans h2, h3⟩
theorem ListO.below {B : Nat} {w w' : World} {v : Value} {L : List (List Int)} (h : ListO B w v L) (k : Below w.heap.size w w') : ListO B w' v L := by
 refine h.kb (KB.of_below k (Nat.zero_le _)) fun g hg => ?_
 obtain ⟨vs, ho, -⟩ := h
 rcases ho.2 with ⟨rfl, -⟩ | ⟨g', cap, cur, rfl, -, h2, -⟩
 ·cases hg
 ·simp only [Value.ownBlock, Option.some.injEq] at hg; subst hg
  exact k.block _ (Array.getElem?_eq_some_iff.1 h2).1
theorem ListO.le {B b : Nat} {w : World} {v : Value} {L : List (List Int)} (h : ListO B w v L) (hb : b ≤ B) : ListO b w v L := by
 obtain ⟨vs, ho, hx⟩ := h
 exact ⟨vs, ownsRow_le ho hb, fun i hi => (hx i hi).le hb⟩
/-- One list more. -/
theorem ListO.snoc {B : Nat} {w w' : World} {v' x : Value} {L : List (List Int)} {z : List Int} {vs : List Value} (hx : ∀ i, i < L.length → OwnB B w (vs.getD i undef) (nthL L i)) (hl : vs.length = L.length) (hz : OwnB B w x z)
  (ho : w'.ownsRow B 24 1 v' (L.length + 1) (vs ++ [x])) (hk : KB B w w') : ListO B w' v' (L ++ [z]) := by
 refine ⟨vs ++ [x], by simpa using ho, fun i hi => ?_⟩
 simp only [List.length_append, List.length_singleton] at hi
 by_cases h : i < L.length
 ·have e1 : (vs ++ [x]).getD i undef = vs.getD i undef := by simp [List.getD_eq_getElem?_getD, List.getElem?_append_left (show i < vs.length by omega)]
  have e2 : nthL (L ++ [z]) i = nthL L i := by simp [nthL, List.getD_eq_getElem?_getD, List.getElem?_append_left h]
  rw [e1, e2]; exact (hx i h).kb hk
 ·obtain rfl : i = L.length := by omega
  have e1 : (vs ++ [x]).getD L.length undef = x := by simp [List.getD_eq_getElem?_getD, ← hl]
  have e2 : nthL (L ++ [z]) L.length = z := by simp [nthL, List.getD_eq_getElem?_getD]
  rw [e1, e2]; exact hz.kb hk
theorem info_bytes : (Try.prog.info? 24).map (fun i => (i.zero, i.size, i.bytes)) = some (some (.slice none 0 0), 1, 24) := by kernel_rfl
theorem wpList_build1 {ops : Array Oper} {rest : List Oper} {o : Oper} {act : Act} {w : World} {Q : Exit → Act → World → Prop} (hg : o.guard = none) (x : Operand) (ho : o.op = .buildSlice 28 1 #[(0, x)]) (a : Option Addr) (n k : Nat) (hx : act.eval x = .slice a n k)
  (h : wpList Try.prog ops Q rest (act.put o.dst (.slice (some ⟨w.heap.size, 0, none⟩) 1 1)) (w.alloc (.cells #[.slice a n k] 24))) : wpList Try.prog ops Q (o :: rest) act w := by
 obtain ⟨ib, hib, hzb, hsb, -⟩ := info_parts info_bytes
 exact wpList_buildSlice hg 28 24 1 _ ho #[.slice a n k] ib _ Try.underlying28 hib hzb (by rw [hsb]; decide) (by rw [hsb]; decide) (by rw [hsb, show Array.range (1 * 1) = #[0] by decide]; simp [hx, Instr.fill, Value.cells]) h
end Go.Proofs.Ytchepcilkcdemaa
namespace Go.Proofs.Ytchepcilkcdemaa
open Go.ChangeShapes Go.WideShapes Go.ChangeAt Go.RowKit Go.Joins Go.Shelf Go.Maps
open Go.Lib (hid)
theorem lt_cdiv {n d j : Nat} (hd : 1 ≤ d) : j < cdiv n d ↔ j * d < n := by
 have h1 := Nat.div_add_mod n d
 have h2 := Nat.mod_lt n (show 0 < d by omega)
 unfold cdiv
 split
 ·rename_i h0
  rw [h0, Nat.add_zero] at h1
  conv => rhs; rw [← h1, Nat.mul_comm]
  exact (Nat.mul_lt_mul_left (show 0 < d by omega)).symm
 ·constructor
  ·intro h
   have h3 : j * d ≤ (n / d) * d := Nat.mul_le_mul_right d (by omega)
   rw [Nat.mul_comm (n / d) d] at h3
   omega
  ·intro h
   have h3 : j * d < (n / d + 1) * d := by rw [Nat.add_mul, Nat.one_mul, Nat.mul_comm (n / d) d]; omega
   exact Nat.lt_of_mul_lt_mul_right h3
/-- A list in pieces of n. -/
def piece {α : Type} (n : Nat) (L : List α) (i : Nat) : List α := (L.drop (i * n)).take n
def pieces {α : Type} (n : Nat) (L : List α) (m : Nat) : List (List α) := (List.range m).map (piece n L)
theorem pieces_succ {α : Type} (n : Nat) (L : List α) (m : Nat) : pieces n L (m + 1) = pieces n L m ++ [piece n L m] := by simp [pieces, List.range_succ]
theorem pieces_length {α : Type} (n : Nat) (L : List α) (m : Nat) : (pieces n L m).length = m := by simp [pieces]
/-- The leaves' data. -/
def cutZ (n : Nat) (zs : List Int) : List (List Int) := if zs = [] then [[]] else pieces n zs (cdiv zs.length n)
/-- A row's data, out of the outputs below. -/
def flats (f : Nat) (L : List (List Int)) (m : Nat) : List (List Int) := (List.range m).map fun i => (piece f L i).flatten
theorem flats_succ (f : Nat) (L : List (List Int)) (m : Nat) : flats f L (m + 1) = flats f L m ++ [(piece f L m).flatten] := by simp [flats, List.range_succ]
theorem flats_length (f : Nat) (L : List (List Int)) (m : Nat) : (flats f L m).length = m := by simp [flats]
def TreeV.rootZ (t : TreeV) (row n : Nat) : Bool := decide (t.f = 0 ∨ (row : Int) = t.p - 1 ∨ (n : Int) ≤ t.f)
def TreeV.upZ (t : TreeV) (row : Nat) (L : List (List Int)) : List (List Int) := if t.rootZ row L.length then [L.flatten] else flats t.fn L (cdiv L.length t.fn)
theorem flatten_le_of_sub {L M : List (List Int)} (h : M.Sublist L) : M.flatten.length ≤ L.flatten.length := by
 induction h with
 | slnil => exact Nat.le_refl _
 | cons a _ ih => simp only [List.flatten_cons, List.length_append]; omega
 | cons_cons a _ ih => simp only [List.flatten_cons, List.length_append]; omega
theorem piece_sub {α : Type} (n : Nat) (L : List α) (i : Nat) : (piece n L i).Sublist L := (List.take_sublist _ _).trans (List.drop_sublist _ _)
theorem nthL_drop (L : List (List Int)) (k i : Nat) : nthL (L.drop k) i = nthL L (k + i) := by simp [nthL, List.getD_eq_getElem?_getD, List.getElem?_drop]
theorem nthL_take {L : List (List Int)} {k i : Nat} (h : i < k) : nthL (L.take k) i = nthL L i := by simp [nthL, List.getD_eq_getElem?_getD, List.getElem?_take, h]
theorem ListH.take {w : World} {a : Option Addr} {n c k : Nat} {L : List (List Int)} (h : ListH w (.slice a n c) L) (hk : k ≤ L.length) : ListH w (.slice a k k) (L.take k) := by
 obtain ⟨a', c', e, h1, h2, h3⟩ := h
 simp only [Value.slice.injEq] at e
 obtain ⟨rfl, -, rfl⟩ := e
 have hl : (L.take k).length = k := by simp; omega
 refine ⟨a, k, by rw [hl], by omega, by omega, ?_⟩
 by_cases h0 : L.take k = []
 ·exact .inl h0
 rcases h3 with h3 | ⟨g, off, rfl, h4, h5⟩
 ·rw [h3] at h0; simp at h0
 ·refine .inr ⟨g, off, rfl, h4, fun i hi => ?_⟩
  obtain ⟨x, h6, h7⟩ := h5 i (by omega)
  exact ⟨x, h6, by rw [nthL_take (by omega)]; exact h7⟩
theorem ListH.drop {w : World} {a a' : Option Addr} {n c k n' c' : Nat} {L : List (List Int)} (h : ListH w (.slice a n c) L) (hk : k ≤ L.length) (hn : n' = L.length - k) (hc : c' = c - k) (g off : Nat) (ha : a = some ⟨g, off, none⟩) (ha' : a' = some ⟨g, off + k, none⟩ ∨ a' = some ⟨g, off, none⟩ ∧ c ≤ k) : ListH w (.slice a' n' c') (L.drop k) := by
 subst ha
 obtain ⟨a1, c1, e, h1, h2, h3⟩ := h
 simp only [Value.slice.injEq] at e
 obtain ⟨rfl, -, rfl⟩ := e
 refine ⟨a', c', by simp [hn], by simp; omega, by omega, ?_⟩
 by_cases h0 : L.drop k = []
 ·exact .inl h0
 have hlt : k < L.length := Nat.lt_of_not_le fun h4 => h0 (List.drop_eq_nil_of_le h4)
 rcases ha' with rfl | ⟨-, h4⟩
 ·rcases h3 with h3 | ⟨g', off', e, h4, h5⟩
  ·rw [h3] at hlt; simp at hlt
  ·simp only [Option.some.injEq, Addr.mk.injEq, and_true] at e
   obtain ⟨rfl, rfl⟩ := e
   refine .inr ⟨g, off + k, rfl, h4, fun i hi => ?_⟩
   obtain ⟨x, h6, h7⟩ := h5 (k + i) (by simp at hi; omega)
   exact ⟨x, by rw [Nat.add_assoc]; exact h6, by rw [nthL_drop]; exact h7⟩
 ·omega
end Go.Proofs.Ytchepcilkcdemaa
namespace Go.Proofs.Ytchepcilkcdemaa
open Go.ChangeShapes Go.WideShapes Go.ChangeAt Go.RowKit Go.Joins Go.Shelf Go.Maps
open Go.Lib (hid)
attribute [local go_sem] Oper.semAt_some
theorem listO_one {B : Nat} {w : World} {x : Value} {z : List Int} (hx : OwnB B w x z) (hB : B ≤ w.heap.size) : ListO B (w.alloc (.cells #[x] 24)) (.slice (some ⟨w.heap.size, 0, none⟩) 1 1) [z] := by
 refine ⟨[x], ⟨rfl, .inr ⟨w.heap.size, 1, #[x], rfl, hB, World.alloc_heap_new w _, Nat.le_refl _, by unfold maxLen; omega, rfl, rfl⟩⟩, fun i hi => ?_⟩
 obtain rfl : i = 0 := by simpa using hi
 exact hx.kb (KB.of_below ((Below.refl _ _).alloc (Nat.le_refl _) _) hB)
theorem bytes_flat {L : List (List Int)} (h : ∀ z ∈ L, ∀ a ∈ z, 0 ≤ a ∧ a ≤ 255) : ∀ a ∈ L.flatten, 0 ≤ a ∧ a ≤ 255 := fun a ha => by
 obtain ⟨z, hz, ha⟩ := List.mem_flatten.1 ha
 exact h z hz a ha
theorem ListH.bytes {w : World} {v : Value} {L : List (List Int)} (h : ListH w v L) : ∀ z ∈ L, ∀ a ∈ z, 0 ≤ a ∧ a ≤ 255 := fun z hz a ha => by
 obtain ⟨a', cap, -, -, -, h3⟩ := h
 rcases h3 with rfl | ⟨g, off, -, -, h5⟩
 ·cases hz
 ·obtain ⟨i, hi, rfl⟩ := List.mem_iff_getElem.1 hz
  obtain ⟨x, -, h7⟩ := h5 i hi
  have e : nthL L i = L[i] := by unfold nthL; rw [List.getD_eq_getElem?_getD, List.getElem?_eq_getElem hi]; rfl
  rw [e] at h7
  exact h7.1 a ha
theorem ownB_of_own {B n : Nat} {w : World} {x : Value} {z : List Int} (hz : ∀ a ∈ z, 0 ≤ a ∧ a ≤ 255) (h : w.ownsRow B 5 1 x n (z.map encB)) : OwnB B w x z := ⟨hz, fresh_of_own h⟩
theorem above_ok (t : TreeV) (h : t.validE = 0) (row : Nat) (hr : row ≤ 255) (L : List (List Int)) (v : Value) (w : World) (hL : ListH w v L) (hn : L.flatten.length ≤ 1073741824) (hn2 : L.length ≤ 16777216) (hne : L ≠ []) :
  Calls Try.prog 49 #[t.val, .int .i64 (row : Nat), v] w fun e w' => ∃ u, e = .returned (.tuple #[u, .bool (t.rootZ row L.length)]) ∧ ListO w.heap.size w' u (t.upZ row L) ∧ Below w.heap.size w w' := by
 obtain ⟨b0, hb0⟩ : ∃ b0, w.heap.size = b0 := ⟨_, rfl⟩
 have hvf := TreeV.valid_facts h
 have hf1 := hvf.2.2.2.2.2.1
 have hp1 : 2 ≤ t.p ∧ t.p ≤ 255 := ⟨hvf.2.2.2.2.2.2.1, hvf.2.2.2.2.2.2.2.1⟩
 have hroot : t.rootZ row L.length = decide (t.f = 0 ∨ (row : Int) = t.p - 1 ∨ (L.length : Int) ≤ t.f) := rfl
 have hup : t.upZ row L = if t.rootZ row L.length then [L.flatten] else flats t.fn L (cdiv L.length t.fn) := rfl
 have hfn : (t.fn : Int) = t.f := by unfold TreeV.fn; omega
 generalize t.upZ row L = U at *
 generalize t.rootZ row L.length = rt at *
 generalize t.fn = fn at *
 obtain ⟨k, d, f, p, l, i, ka, kl, kc, sa, sl, sc, pa, pl, pc⟩ := t
 unfold TreeV.val
 simp only at *
 clear hvf h
 have hlp : 0 < L.length := List.length_pos_iff.2 hne
 have HL := hid hL
 have HBY := hid hL.bytes
 have HN := hid hn
 have HUP := hid hup
 obtain ⟨a, cap, rfl, hc1, hc2, -⟩ := hL
 clear hup hne hn
 have hbA : Below b0 w (w.alloc (.cells #[.int .i64 k, .int .i64 d, .int .i64 f, .int .i64 p, .int .u32 l, .int .i64 i, .slice ka kl kc, .slice sa sl sc, .slice pa pl pc] 26)) := by rw [← hb0]; exact (Below.refl _ _).alloc (Nat.le_refl _) _
 have hrA := World.alloc_heap_new w (.cells #[.int .i64 k, .int .i64 d, .int .i64 f, .int .i64 p, .int .u32 l, .int .i64 i, .slice ka kl kc, .slice sa sl sc, .slice pa pl pc] 26)
 rw [hb0] at hrA
 go_enter Try.func49, Try.ntmps49
 go_upto_region 1 with (fail)
 generalize w.alloc (.cells #[.int .i64 k, .int .i64 d, .int .i64 f, .int .i64 p, .int .u32 l, .int .i64 i, .slice ka kl kc, .slice sa sl sc, .slice pa pl pc] 26) = wA at *
 have c2 : wA.cell? ⟨b0, 2, none⟩ = some (.int .i64 f) := cell_of_heap hrA 2
 have c3 : wA.cell? ⟨b0, 3, none⟩ = some (.int .i64 p) := cell_of_heap hrA 3
 have hbs : b0 < wA.heap.size := (Array.getElem?_eq_some_iff.1 hrA).1
 have HRA := hid hrA
 have HBA := hid hbA
 clear hrA hbA
 go_cut [2, 3, 26] from 1 (fun x y u W => x = .slice a L.length cap ∧ y = .pointer (some ⟨b0, 0, none⟩) ∧ u = .bool rt ∧ wA = W)
 case first =>
  by_cases h1 : f = 0
  case pos =>
   obtain rfl : rt = true := by rw [hroot]; exact decide_eq_true (.inl h1)
   have q1 : (f == 0) = true := by rw [beq_iff_eq]; exact h1
   clear hroot
   subst h1
   go_wp2
   go_meet
   case rel => exact ⟨rfl, rfl, rfl, by trivial⟩
  by_cases h2 : (row : Int) = p - 1
  case pos =>
   obtain rfl : rt = true := by rw [hroot]; exact decide_eq_true (.inr (.inl h2))
   clear hroot
   go_wp2
   go_meet
   case rel => exact ⟨rfl, rfl, rfl, by trivial⟩
  by_cases h3 : (L.length : Int) ≤ f
  case pos =>
   obtain rfl : rt = true := by rw [hroot]; exact decide_eq_true (.inr (.inr h3))
   clear hroot
   go_wp2
   go_meet
   case rel => exact ⟨rfl, rfl, rfl, by trivial⟩
  obtain rfl : rt = false := by rw [hroot]; exact decide_eq_false (by rintro (h | h | h); exact h1 h; exact h2 h; exact h3 h)
  clear hroot
  go_wp2
  go_meet
  case rel => exact ⟨rfl, rfl, by simp [h1, h2], by trivial⟩
 case rest =>
  obtain ⟨rfl, rfl, rfl, rfl⟩ := hcut
  clear c3
  have hLA := HL.out.below (hb0 ▸ HBA.out)
  obtain ⟨ib, hib, hzb, hsb, hbb⟩ := info_parts info_bytes
  cases rt
  case true =>
   go_wp2_with fail
   refine (joined_ok L _ _ hLA (by have := HN.out; omega)).mono ?_; rintro e w2 ⟨u, rfl, ho, hb⟩
   have hO := ownB_of_own (bytes_flat HBY.out) ho
   have hB := HBA.out.trans (hb.mono (by omega))
   have HO := hid (listO_one (hO.le (show b0 ≤ wA.heap.size by omega)) (by have := hb.size; omega))
   have HB2 := hid (hB.alloc (by have := hb.size; omega) (.cells #[u] 24))
   have hu := hO.one
   obtain ⟨a6, n6, k6, rfl⟩ := own_slice ho
   clear ho hb hO hB hu
   go_wp2_with ((with_reducible show wpList _ _ _ (Oper.mk _ (Op.buildSlice _ _ _) _ _ _ _ :: _) _ _); refine wpList_build1 rfl _ rfl _ _ _ rfl ?_)
   go_ret2
   exact ⟨_, rfl, by rw [hb0, HUP.out, if_pos trivial]; exact HO.out, by rw [hb0]; exact HB2.out⟩
  case false =>
   have hnr : ¬ (f = 0 ∨ (row : Int) = p - 1 ∨ (L.length : Int) ≤ f) := of_decide_eq_false hroot.symm
   have hf2 : 2 ≤ f ∧ f ≤ 255 ∧ f < L.length := by omega
   have HUP2 := hid (show U = flats fn L (cdiv L.length fn) from HUP.out.trans (if_neg (by simp)))
   clear hroot hf1 hnr HUP
   subst hfn
   go_wp2_with fail
   go_loopw [2, 8] (fun x s wr => ∃ j : Nat, j ≤ cdiv L.length fn ∧ ListH w x (L.drop (j * fn)) ∧ ListO (b0 + 1) wr s (flats fn L j) ∧ Below b0 w wr ∧ wr.heap[b0]? = some (.cells #[.int .i64 k, .int .i64 d, .int .i64 (fn : Int), .int .i64 p, .int .u32 l, .int .i64 i, .slice ka kl kc, .slice sa sl sc, .slice pa pl pc] 26 (0, 0))) (fun x _ _ => lenV x)
   case atStart => exact ⟨0, Nat.zero_le _, by rw [Nat.zero_mul]; exact HL.out, ListO.nil _ _, HBA.out, HRA.out⟩
   case round =>
    obtain ⟨j, hj, hx, ho, hb, hrT⟩ := hrel
    have c2 : wr.cell? ⟨b0, 2, none⟩ = some (.int .i64 (fn : Int)) := cell_of_heap hrT 2
    have hbs : b0 < wr.heap.size := (Array.getElem?_eq_some_iff.1 hrT).1
    have HRT := hid hrT
    clear hrT
    have hd1 : 1 ≤ fn := by omega
    obtain ⟨a1, cp, rfl, hx1, hx2, -⟩ := id hx
    have HX := hid hx
    have HO := hid ho
    have HB := hid hb
    have hdl : (L.drop (j * fn)).length = L.length - j * fn := by simp
    obtain ⟨m, hm⟩ : ∃ m, (L.drop (j * fn)).length = m := ⟨_, rfl⟩
    rw [hm] at hx1 hdl ⊢
    have HDL := hid hdl
    clear hx ho hb hdl
    by_cases hlt : 0 < m
    case pos =>
     have hj2 : j < cdiv L.length fn := (lt_cdiv hd1).2 (by have := HDL.out; omega)
     obtain ⟨k, hk⟩ : ∃ k, min fn m = k := ⟨_, rfl⟩
     have HK := hid hk
     have hkm : 1 ≤ k ∧ k ≤ m ∧ k ≤ cp := by omega
     have hmi : min (fn : Int) (m : Int) = (k : Int) := by omega
     have hm2 : 0 < (m : Int) := by omega
     clear hk
     obtain ⟨g, off, rfl, hgs, -⟩ : ∃ g off, a1 = some ⟨g, off, none⟩ ∧ g < w.heap.size ∧ True := by
      obtain ⟨a', c', e, -, -, h3⟩ := HX.out
      rcases h3 with h3 | ⟨g, off, rfl, h4, -⟩
      ·rw [h3] at hm; simp at hm; omega
      ·simp only [Value.slice.injEq] at e; exact ⟨g, off, e.1, h4, trivial⟩
     have hpk : piece fn L j = (L.drop (j * fn)).take k := by
      unfold piece
      by_cases h : fn ≤ m
      ·rw [show k = fn by have := HK.out; omega]
      ·rw [show k = m by have := HK.out; omega, List.take_of_length_le (by omega), List.take_of_length_le (by omega)]
     have HPK := hid hpk
     have HTK := hid ((ListH.take HX.out (k := k) (by omega)).below (hb0 ▸ HB.out))
     have hfl := Nat.le_trans (flatten_le_of_sub (piece_sub fn L j)) HN.out
     rw [hpk] at hfl
     have HFL := hid hfl
     have hkc : (k : Int) ≤ (cp : Int) ∧ (k : Int) ≤ (m : Int) ∧ 0 ≤ (k : Int) := by omega
     obtain ⟨hkc1, hkc2, hkc3⟩ := hkc
     obtain ⟨vs, hvo, hvx⟩ := HO.out
     have hvl : vs.length = j := by have := hvo.1; rw [flats_length] at this; omega
     rw [flats_length] at hvo hvx
     have HVX := hid hvx
     obtain ⟨a8, n8, k8, rfl⟩ := own_slice hvo
     have HVO := hid hvo
     have hj3 : j + 1 ≤ 16777217 := by have := cdiv_le (n := L.length) hd1; omega
     clear hpk hfl hvo hvx
     have HM := hid hm
     have hb2s : b0 + 1 ≤ wr.heap.size := by omega
     have HBY2 := hid (show ∀ z ∈ (L.drop (j * fn)).take k, ∀ a ∈ z, 0 ≤ a ∧ a ≤ 255 from fun z hz => HBY.out z (List.mem_of_mem_drop (List.mem_of_mem_take hz)))
     have hlk : ((L.drop (j * fn)).take k).length = k := by rw [List.length_take]; omega
     clear hm
     by_cases hck : k = cp
     case pos =>
      subst hck
      go_wp2_with fail
      refine (joined_ok ((L.drop (j * fn)).take k) _ _ HTK.out (by have := HFL.out; omega)).mono ?_; rintro e w2 ⟨u, rfl, ho2, hb2⟩
      have hO := ownB_of_own (bytes_flat HBY2.out) ho2
      have HO2 := hid (hO.le hb2s)
      have hs2 := hb2.size
      have HK2 := hid (KB.of_below hb2 hb2s)
      have HV2 := hid (show w2.ownsRow (b0 + 1) 24 1 (.slice a8 n8 k8) j vs from ownsRow_same' HVO.out (fun g _ g2 => hb2.block g g2))
      obtain ⟨a6, n6, k6, rfl⟩ := own_slice ho2
      have HB2 := hid hb2
      clear ho2 hb2 hO
      go_wp2_with (first | ((with_reducible show wpList _ _ _ (Oper.mk _ (Op.buildSlice _ _ _) _ _ _ _ :: _) _ _); refine wpList_build1 rfl _ rfl _ _ _ rfl ?_) | (at_builtin; refine wpList_push rfl _ _ _ rfl (b0 + 1) 24 (by decide) ib (.slice none 0 0) 1 24 Try.underlying28 hib hzb hsb hbb rfl (by decide) (.slice a8 n8 k8) j vs [.slice a6 n6 k6] _ rfl HV2.out rfl rfl (by simp [Value.oneCell']) (by unfold maxLen; omega) (by omega) (by omega) ?_; intro v' w' hown' hkb' hsp'))
      have hmk : m = k := by omega
      have hd0 : (L.drop (j * fn)).drop k = L.drop ((j + 1) * fn) := by
       rw [List.drop_drop, Nat.add_mul, Nat.one_mul, List.drop_eq_nil_of_le (by have := HDL.out; omega), List.drop_eq_nil_of_le (by have := HDL.out; have := HK.out; omega)]
      refine ⟨⟨j + 1, by omega, ?_, ?_, HB.out.trans ((HB2.out.mono (by omega)).trans (hkb'.below.mono (by omega))), (hkb'.block b0 (by omega)).trans (rowStay HRT.out HB2.out)⟩, by simp [lenV]; omega⟩
      ·rw [← hd0]; exact ListH.drop HX.out (by have := HM.out; omega) (by have := HM.out; omega) (by omega) g off rfl (.inr ⟨rfl, Nat.le_refl _⟩)
      ·rw [flats_succ]
       refine ListO.snoc (w := w2) (vs := vs) (x := .slice a6 n6 k6) (fun i hi => ?_) (by rw [flats_length]; exact hvl) (by rw [HPK.out]; exact HO2.out) (by rw [flats_length]; exact hown') hkb'
       rw [flats_length] at hi
       exact (HVX.out i hi).kb HK2.out
     go_wp2_with fail
     refine (joined_ok ((L.drop (j * fn)).take k) _ _ HTK.out (by have := HFL.out; omega)).mono ?_; rintro e w2 ⟨u, rfl, ho2, hb2⟩
     have hO := ownB_of_own (bytes_flat HBY2.out) ho2
     have HO2 := hid (hO.le hb2s)
     have hs2 := hb2.size
     have HK2 := hid (KB.of_below hb2 hb2s)
     have HV2 := hid (show w2.ownsRow (b0 + 1) 24 1 (.slice a8 n8 k8) j vs from ownsRow_same' HVO.out (fun g _ g2 => hb2.block g g2))
     obtain ⟨a6, n6, k6, rfl⟩ := own_slice ho2
     have HB2 := hid hb2
     clear ho2 hb2 hO
     go_wp2_with (first | ((with_reducible show wpList _ _ _ (Oper.mk _ (Op.buildSlice _ _ _) _ _ _ _ :: _) _ _); refine wpList_build1 rfl _ rfl _ _ _ rfl ?_) | (at_builtin; refine wpList_push rfl _ _ _ rfl (b0 + 1) 24 (by decide) ib (.slice none 0 0) 1 24 Try.underlying28 hib hzb hsb hbb rfl (by decide) (.slice a8 n8 k8) j vs [.slice a6 n6 k6] _ rfl HV2.out rfl rfl (by simp [Value.oneCell']) (by unfold maxLen; omega) (by omega) (by omega) ?_; intro v' w' hown' hkb' hsp'))
     have hd0 : (L.drop (j * fn)).drop k = L.drop ((j + 1) * fn) := by
      rw [List.drop_drop, Nat.add_mul, Nat.one_mul]
      by_cases h : fn ≤ m
      ·rw [show k = fn by have := HK.out; omega]
      ·rw [List.drop_eq_nil_of_le (by have := HDL.out; have := HK.out; omega), List.drop_eq_nil_of_le (by have := HDL.out; have := HK.out; omega)]
     refine ⟨⟨j + 1, by omega, ?_, ?_, HB.out.trans ((HB2.out.mono (by omega)).trans (hkb'.below.mono (by omega))), (hkb'.block b0 (by omega)).trans (rowStay HRT.out HB2.out)⟩, by simp [lenV]; omega⟩
     ·rw [← hd0]; exact ListH.drop HX.out (by have := HM.out; omega) (by have := HM.out; omega) (by omega) g off rfl (.inl rfl)
     ·rw [flats_succ]
      refine ListO.snoc (w := w2) (vs := vs) (x := .slice a6 n6 k6) (fun i hi => ?_) (by rw [flats_length]; exact hvl) (by rw [HPK.out]; exact HO2.out) (by rw [flats_length]; exact hown') hkb'
      rw [flats_length] at hi
      exact (HVX.out i hi).kb HK2.out
    have hm0 : m = 0 := by omega
    have hjc : cdiv L.length fn ≤ j := Nat.le_of_not_lt fun h => by
     have := (lt_cdiv hd1).1 h
     have := HDL.out
     omega
    obtain rfl : j = cdiv L.length fn := by omega
    subst hm0
    clear hm
    have HOr := hid (HO.out.le (show b0 ≤ b0 + 1 by omega))
    go_wp2
    go_ret2
    exact ⟨_, rfl, by rw [hb0, HUP2.out]; exact HOr.out, by rw [hb0]; exact HB.out⟩
theorem cut_ok (t : TreeV) (h : t.validE = 0) (hl : 0 ≤ t.l ∧ t.l ≤ 4294967295) (zs : List Int) (v : Value) (w : World) (hv : Hold w v zs) (hn : zs.length ≤ 16777216) :
  Calls Try.prog 28 #[t.val, v] w fun e w' => ∃ u, e = .returned u ∧ ListO w.heap.size w' u (cutZ t.ln zs) ∧ Below w.heap.size w w' := by
 obtain ⟨b0, hb0⟩ : ∃ b0, w.heap.size = b0 := ⟨_, rfl⟩
 have hvf := TreeV.valid_facts h
 have hl0 : t.l ≠ 0 := hvf.2.2.2.2.2.2.2.2.1
 have hln : (t.ln : Int) = t.l := by unfold TreeV.ln; omega
 have hd1 : 1 ≤ t.ln := by omega
 have hln2 : (t.ln : Int) ≤ 4294967295 := by omega
 generalize t.ln = ln at *
 obtain ⟨k, d, f, p, l, i, ka, kl, kc, sa, sl, sc, pa, pl, pc⟩ := t
 unfold TreeV.val
 simp only at *
 clear hvf h hl hl0
 subst hln
 obtain ⟨ib, hib, hzb, hsb, hbb⟩ := info_parts info_bytes
 obtain ⟨i0, hi, hz0, hz1, hz2⟩ := info_parts info_u8
 have HV := hid hv
 obtain ⟨a, cap, rfl, hc1, hc2⟩ := hv.slice
 clear hv
 have hbA : Below b0 w (w.alloc (.cells #[.int .i64 k, .int .i64 d, .int .i64 f, .int .i64 p, .int .u32 (ln : Int), .int .i64 i, .slice ka kl kc, .slice sa sl sc, .slice pa pl pc] 26)) := by rw [← hb0]; exact (Below.refl _ _).alloc (Nat.le_refl _) _
 have hrA := World.alloc_heap_new w (.cells #[.int .i64 k, .int .i64 d, .int .i64 f, .int .i64 p, .int .u32 (ln : Int), .int .i64 i, .slice ka kl kc, .slice sa sl sc, .slice pa pl pc] 26)
 rw [hb0] at hrA
 go_enter Try.func28, Try.ntmps28
 go_upto_region 1 with (fail)
 generalize w.alloc (.cells #[.int .i64 k, .int .i64 d, .int .i64 f, .int .i64 p, .int .u32 (ln : Int), .int .i64 i, .slice ka kl kc, .slice sa sl sc, .slice pa pl pc] 26) = wA at *
 have c4 : wA.cell? ⟨b0, 4, none⟩ = some (.int .u32 (ln : Int)) := cell_of_heap hrA 4
 have hbs : b0 < wA.heap.size := (Array.getElem?_eq_some_iff.1 hrA).1
 have HBA := hid hbA
 clear hrA hbA
 by_cases h0 : zs = []
 case pos =>
  subst h0
  have HR := hid (listO_one (B := b0) (w := wA) (x := .slice none 0 0) (z := []) ⟨fun _ h => by simp at h, .inl ⟨rfl, rfl⟩⟩ (by omega))
  have HB := hid (HBA.out.alloc (show b0 ≤ wA.heap.size by omega) (.cells #[.slice none 0 0] 24))
  go_wp2_with ((with_reducible show wpList _ _ _ (Oper.mk _ (Op.buildSlice _ _ _) _ _ _ _ :: _) _ _); refine wpList_build1 rfl _ rfl _ _ _ rfl ?_)
  go_ret
  exact ⟨_, rfl, by rw [hb0]; exact HR.out, by rw [hb0]; exact HB.out⟩
 have hlp : 0 < zs.length := List.length_pos_iff.2 h0
 have hcz : cutZ ln zs = pieces ln zs (cdiv zs.length ln) := if_neg h0
 have HCZ := hid hcz
 have hlp2 : ((zs.length : Int) == 0) = false := beq_eq_false_iff_ne.2 (by omega)
 clear h0 hcz
 go_wp2_with fail
 go_loopw [1, 5] (fun x s wr => ∃ j : Nat, j ≤ cdiv zs.length ln ∧ Hold w x (zs.drop (j * ln)) ∧ ListO b0 wr s (pieces ln zs j) ∧ Below b0 w wr) (fun x _ _ => lenV x)
 case atStart => exact ⟨0, Nat.zero_le _, by rw [Nat.zero_mul]; exact HV.out, ListO.nil _ _, HBA.out⟩
 case round =>
  obtain ⟨j, hj, hx, ho, hb⟩ := hrel
  obtain ⟨a1, cp, rfl, hx1, hx2⟩ := id hx.slice
  have HX := hid hx
  have HO := hid ho
  have HB := hid hb
  have hdl : (zs.drop (j * ln)).length = zs.length - j * ln := by simp
  obtain ⟨m, hm⟩ : ∃ m, (zs.drop (j * ln)).length = m := ⟨_, rfl⟩
  rw [hm] at hx1 hdl ⊢
  have HDL := hid hdl
  have hbb0 : b0 ≤ wr.heap.size := by have := hb.size; omega
  clear hx ho hb hdl
  by_cases hlt : 0 < m
  case pos =>
   have hj2 : j < cdiv zs.length ln := (lt_cdiv hd1).2 (by have := HDL.out; omega)
   obtain ⟨k, hk⟩ : ∃ k, min ln m = k := ⟨_, rfl⟩
   have HK := hid hk
   have hmn : m ≤ 16777216 := by have := HDL.out; omega
   have hkm : 1 ≤ k ∧ k ≤ m ∧ k ≤ cp := by omega
   have hmi : min (ln : Int) (m : Int) = (k : Int) := by omega
   have hm2 : 0 < (m : Int) := by omega
   obtain ⟨g, off, rfl⟩ := hold_some HX.out (by rintro e; rw [e] at hm; simp at hm; omega)
   have hpk : piece ln zs j = (zs.drop (j * ln)).take k := by
    unfold piece
    by_cases h : ln ≤ m
    ·rw [show k = ln by have := HK.out; omega]
    ·rw [show k = m by have := HK.out; omega, List.take_of_length_le (by omega), List.take_of_length_le (by omega)]
   have HPK := hid hpk
   have hlk : ((zs.drop (j * ln)).take k).length = k := by rw [List.length_take]; omega
   have HLK := hid hlk
   have HSR := hid ((HX.out.below (hb0 ▸ HB.out)).src)
   have HZ := hid (show ∀ z ∈ (zs.drop (j * ln)).take k, 0 ≤ z ∧ z ≤ 255 from fun z hz => HX.out.1 z (List.mem_of_mem_take hz))
   obtain ⟨vs, hvo, hvx⟩ := HO.out
   have hvl : vs.length = j := by have := hvo.1; rw [pieces_length] at this; omega
   rw [pieces_length] at hvo hvx
   have HVX := hid hvx
   obtain ⟨a8, n8, k8, rfl⟩ := own_slice hvo
   have HVO := hid hvo
   have hj3 : j + 1 ≤ 16777217 := by have := cdiv_le (n := zs.length) hd1; omega
   have hkc : (k : Int) ≤ (cp : Int) ∧ (k : Int) ≤ (m : Int) ∧ 0 ≤ (k : Int) := by omega
   obtain ⟨hkc1, hkc2, hkc3⟩ := hkc
   have HM := hid hm
   have hmk := fun W : World => run_make (P := Try.prog) W 24 5 i0 (.int .u8 0) Try.underlying24 hi hz0 .i64 .i64 k k (by omega) (by omega) (by rw [hz2]; omega) (by omega)
   simp only [hz1] at hmk
   have hmc : madeCells #[.int .u8 0] k = (List.replicate k (.int .u8 0)).toArray := by
    apply Array.toList_inj.1
    rw [toList_madeCells_one]
   have HMC := hid hmc
   clear hk hpk hlk hvo hvx hm hmc
   by_cases hck : k = cp
   case pos =>
    subst hck
    go_upto_region 8 with (fail)
    obtain ⟨gl, hgl⟩ : ∃ gl, wr.heap.size = gl := ⟨_, rfl⟩
    have hgr : (wr.alloc (.cells (madeCells #[.int .u8 0] k) 5)).heap[gl]? = some (.cells (List.replicate k (.int .u8 0)).toArray 5 (0, 0)) := by rw [← HMC.out, ← hgl]; exact World.alloc_heap_new _ _
    have hbl : Below gl wr (wr.alloc (.cells (madeCells #[.int .u8 0] k) 5)) := by rw [← hgl]; exact (Below.refl _ _).alloc (Nat.le_refl _) _
    rw [hgl]
    generalize wr.alloc (.cells (madeCells #[.int .u8 0] k) 5) = w3 at *
    have hsr := HSR.out.below (hgl ▸ hbl)
    have hcs : ∀ (i : Nat) (v : Value), (((zs.drop (j * ln)).take k).map encB)[i]? = some v → w3.cell? ((⟨g, off, none⟩ : Addr).add i) = some v := fun i v hiv => by
     rcases hsr.2.2 with ⟨e, -⟩ | ⟨ad, c, e, h2⟩
     ·cases e
     ·simp only [Value.slice.injEq, Option.some.injEq] at e
      obtain ⟨rfl, -, -⟩ := e
      refine h2 i v ?_
      rw [List.getElem?_map] at hiv ⊢
      by_cases hik : i < k
      ·rw [List.getElem?_take, if_pos hik] at hiv; exact hiv
      ·rw [List.getElem?_take, if_neg hik] at hiv; cases hiv
    clear hmk
    go_upto_region 9 with ((with_reducible show wpList _ _ _ (Oper.mk (some 27) _ _ _ _ _ :: _) _ _); refine wpList_copy_splice rfl _ _ _ _ rfl 5 Try.underlying24 (by rw [hi]; simp [hz1]) _ _ _ _ _ _ rfl rfl gl 0 (List.replicate k (.int .u8 0)) 5 hgr (((zs.drop (j * ln)).take k).map encB) (by rw [List.length_map, HLK.out]; exact (Nat.min_eq_right (by omega)).symm) (fun _ => ⟨rfl, ⟨g, off, none⟩, rfl, hcs⟩) (by rw [List.length_map, HLK.out, List.length_replicate]; omega) (fun u hu => by obtain ⟨z, -, rfl⟩ := List.mem_map.1 hu; rfl) gl wr hbl (Nat.le_refl _) ?_; intro w4 hg4 hb4)
    have hsp : splice (List.replicate k (.int .u8 0)) 0 (((zs.drop (j * ln)).take k).map encB) = ((zs.drop (j * ln)).take k).map encB := by
     have := HLK.out
     simp only [splice, List.take_zero, List.nil_append, List.length_map, this, Nat.zero_add, List.drop_replicate, Nat.sub_self, List.replicate_zero, List.append_nil]
    have HO4 := hid (show OwnB b0 w4 (.slice (some ⟨gl, 0, none⟩) k k) ((zs.drop (j * ln)).take k) from ownB_of_own HZ.out ⟨by rw [List.length_map, HLK.out, Nat.mul_one], .inr ⟨gl, k, _, rfl, by omega, hg4.out, Nat.le_refl _, by unfold maxLen; omega, by rw [hsp, List.size_toArray, List.length_map, HLK.out, Nat.mul_one], by rw [hsp, List.toList_toArray, List.take_of_length_le (by rw [List.length_map, HLK.out, Nat.mul_one]; omega)]⟩⟩)
    have hb4' : Below wr.heap.size wr w4 := hgl ▸ hb4
    have HK4 := hid (KB.of_below hb4' hbb0)
    have HB4 := hid hb4'
    have HV4 := hid (show w4.ownsRow b0 24 1 (.slice a8 n8 k8) j vs from ownsRow_same' HVO.out (fun g _ g2 => hb4'.block g g2))
    have hs4 := hb4'.size
    clear hsp hsr hcs hg4 hb4 hb4' hgr hbl
    go_wp2_with (first | ((with_reducible show wpList _ _ _ (Oper.mk _ (Op.buildSlice _ _ _) _ _ _ _ :: _) _ _); refine wpList_build1 rfl _ rfl _ _ _ rfl ?_) | (at_builtin; refine wpList_push rfl _ _ _ rfl b0 24 (by decide) ib (.slice none 0 0) 1 24 Try.underlying28 hib hzb hsb hbb rfl (by decide) (.slice a8 n8 k8) j vs [.slice (some ⟨gl, 0, none⟩) k k] _ rfl HV4.out rfl rfl (by simp [Value.oneCell']) (by unfold maxLen; omega) (by omega) (by omega) ?_; intro v' w' hown' hkb' hsp'))
    have hd0 : (zs.drop (j * ln)).drop k = zs.drop ((j + 1) * ln) := by
     rw [List.drop_drop, Nat.add_mul, Nat.one_mul]
     by_cases h : ln ≤ m
     ·rw [show k = ln by have := HK.out; omega]
     ·rw [List.drop_eq_nil_of_le (by have := HDL.out; have := HK.out; omega), List.drop_eq_nil_of_le (by have := HDL.out; have := HK.out; omega)]
    refine ⟨⟨j + 1, by omega, ?_, ?_, HB.out.trans ((HB4.out.mono hbb0).trans hkb'.below)⟩, by simp [lenV]; omega⟩
    ·rw [← hd0]; exact hold_drop HX.out (by have := HM.out; omega) (by have := HM.out; omega) (by omega) g off rfl (.inr ⟨rfl, rfl⟩)
    ·rw [pieces_succ]
     refine ListO.snoc (w := w4) (vs := vs) (x := .slice (some ⟨gl, 0, none⟩) k k) (fun i hi => ?_) (by rw [pieces_length]; exact hvl) (by rw [HPK.out]; exact HO4.out) (by rw [pieces_length]; exact hown') hkb'
     rw [pieces_length] at hi
     exact (HVX.out i hi).kb HK4.out
   go_upto_region 8 with (fail)
   obtain ⟨gl, hgl⟩ : ∃ gl, wr.heap.size = gl := ⟨_, rfl⟩
   have hgr : (wr.alloc (.cells (madeCells #[.int .u8 0] k) 5)).heap[gl]? = some (.cells (List.replicate k (.int .u8 0)).toArray 5 (0, 0)) := by rw [← HMC.out, ← hgl]; exact World.alloc_heap_new _ _
   have hbl : Below gl wr (wr.alloc (.cells (madeCells #[.int .u8 0] k) 5)) := by rw [← hgl]; exact (Below.refl _ _).alloc (Nat.le_refl _) _
   rw [hgl]
   generalize wr.alloc (.cells (madeCells #[.int .u8 0] k) 5) = w3 at *
   have hsr := HSR.out.below (hgl ▸ hbl)
   have hcs : ∀ (i : Nat) (v : Value), (((zs.drop (j * ln)).take k).map encB)[i]? = some v → w3.cell? ((⟨g, off, none⟩ : Addr).add i) = some v := fun i v hiv => by
    rcases hsr.2.2 with ⟨e, -⟩ | ⟨ad, c, e, h2⟩
    ·cases e
    ·simp only [Value.slice.injEq, Option.some.injEq] at e
     obtain ⟨rfl, -, -⟩ := e
     refine h2 i v ?_
     rw [List.getElem?_map] at hiv ⊢
     by_cases hik : i < k
     ·rw [List.getElem?_take, if_pos hik] at hiv; exact hiv
     ·rw [List.getElem?_take, if_neg hik] at hiv; cases hiv
   clear hmk
   go_upto_region 9 with ((with_reducible show wpList _ _ _ (Oper.mk (some 27) _ _ _ _ _ :: _) _ _); refine wpList_copy_splice rfl _ _ _ _ rfl 5 Try.underlying24 (by rw [hi]; simp [hz1]) _ _ _ _ _ _ rfl rfl gl 0 (List.replicate k (.int .u8 0)) 5 hgr (((zs.drop (j * ln)).take k).map encB) (by rw [List.length_map, HLK.out]; exact (Nat.min_eq_right (by omega)).symm) (fun _ => ⟨rfl, ⟨g, off, none⟩, rfl, hcs⟩) (by rw [List.length_map, HLK.out, List.length_replicate]; omega) (fun u hu => by obtain ⟨z, -, rfl⟩ := List.mem_map.1 hu; rfl) gl wr hbl (Nat.le_refl _) ?_; intro w4 hg4 hb4)
   have hsp : splice (List.replicate k (.int .u8 0)) 0 (((zs.drop (j * ln)).take k).map encB) = ((zs.drop (j * ln)).take k).map encB := by
    have := HLK.out
    simp only [splice, List.take_zero, List.nil_append, List.length_map, this, Nat.zero_add, List.drop_replicate, Nat.sub_self, List.replicate_zero, List.append_nil]
   have HO4 := hid (show OwnB b0 w4 (.slice (some ⟨gl, 0, none⟩) k k) ((zs.drop (j * ln)).take k) from ownB_of_own HZ.out ⟨by rw [List.length_map, HLK.out, Nat.mul_one], .inr ⟨gl, k, _, rfl, by omega, hg4.out, Nat.le_refl _, by unfold maxLen; omega, by rw [hsp, List.size_toArray, List.length_map, HLK.out, Nat.mul_one], by rw [hsp, List.toList_toArray, List.take_of_length_le (by rw [List.length_map, HLK.out, Nat.mul_one]; omega)]⟩⟩)
   have hb4' : Below wr.heap.size wr w4 := hgl ▸ hb4
   have HK4 := hid (KB.of_below hb4' hbb0)
   have HB4 := hid hb4'
   have HV4 := hid (show w4.ownsRow b0 24 1 (.slice a8 n8 k8) j vs from ownsRow_same' HVO.out (fun g _ g2 => hb4'.block g g2))
   have hs4 := hb4'.size
   clear hsp hsr hcs hg4 hb4 hb4' hgr hbl
   go_wp2_with (first | ((with_reducible show wpList _ _ _ (Oper.mk _ (Op.buildSlice _ _ _) _ _ _ _ :: _) _ _); refine wpList_build1 rfl _ rfl _ _ _ rfl ?_) | (at_builtin; refine wpList_push rfl _ _ _ rfl b0 24 (by decide) ib (.slice none 0 0) 1 24 Try.underlying28 hib hzb hsb hbb rfl (by decide) (.slice a8 n8 k8) j vs [.slice (some ⟨gl, 0, none⟩) k k] _ rfl HV4.out rfl rfl (by simp [Value.oneCell']) (by unfold maxLen; omega) (by omega) (by omega) ?_; intro v' w' hown' hkb' hsp'))
   have hd0 : (zs.drop (j * ln)).drop k = zs.drop ((j + 1) * ln) := by
    rw [List.drop_drop, Nat.add_mul, Nat.one_mul]
    by_cases h : ln ≤ m
    ·rw [show k = ln by have := HK.out; omega]
    ·rw [List.drop_eq_nil_of_le (by have := HDL.out; have := HK.out; omega), List.drop_eq_nil_of_le (by have := HDL.out; have := HK.out; omega)]
   refine ⟨⟨j + 1, by omega, ?_, ?_, HB.out.trans ((HB4.out.mono hbb0).trans hkb'.below)⟩, by simp [lenV]; omega⟩
   ·rw [← hd0]; exact hold_drop HX.out (by have := HM.out; omega) (by have := HM.out; omega) (by omega) g off rfl (.inl rfl)
   ·rw [pieces_succ]
    refine ListO.snoc (w := w4) (vs := vs) (x := .slice (some ⟨gl, 0, none⟩) k k) (fun i hi => ?_) (by rw [pieces_length]; exact hvl) (by rw [HPK.out]; exact HO4.out) (by rw [pieces_length]; exact hown') hkb'
    rw [pieces_length] at hi
    exact (HVX.out i hi).kb HK4.out
  have hm0 : m = 0 := by omega
  have hjc : cdiv zs.length ln ≤ j := Nat.le_of_not_lt fun h => by
   have := (lt_cdiv hd1).1 h
   have := HDL.out
   omega
  obtain rfl : j = cdiv zs.length ln := by omega
  subst hm0
  clear hm
  go_wp2
  go_ret
  exact ⟨_, rfl, by rw [hb0, HCZ.out]; exact HO.out, by rw [hb0]; exact HB.out⟩
end Go.Proofs.Ytchepcilkcdemaa
namespace Go.Proofs.Ytchepcilkcdemaa
open Go.ChangeShapes Go.WideShapes Go.ChangeAt Go.RowKit Go.Joins Go.Shelf Go.Maps
open Go.Lib (hid)
theorem blk_get {big : Bool} {v : Nat → Nat} {z1 z2 : List Int} (h1 : z1.length ≤ sB big) (h2 : z2.length ≤ sB big) {i : Nat} (hi : i < 2 * sB big) : nthz (blkP big v z1 z2) i = nthz (encF big (v 7 == 0) v 9) i := by
 have e := encF_length big (v 7 == 0) v 9 (by omega)
 have hm : 4 * sB big = mB big := by cases big <;> decide
 unfold blkP
 rw [setL_get (by rw [setL_length (by omega)]; omega), if_neg (by omega), setL_get (by omega), if_neg (by omega)]
theorem encF_step {big x0 : Bool} {v : Nat → Nat} (k : Nat) {i : Nat} (hk : k + 1 ≤ 9) (h : ¬ (atB big (k + 1) ≤ i ∧ i < atB big (k + 1) + szB big (k + 1))) : nthz (encF big x0 v (k + 1)) i = nthz (encF big x0 v k) i := by
 rw [encF_get big x0 v hk i, if_neg (fun h2 => h h2.2)]
theorem encF_hit {big x0 : Bool} {v : Nat → Nat} (k : Nat) {i : Nat} (hk : k + 1 ≤ 9) (h7 : k + 1 ≠ 7) (h : atB big (k + 1) = i) : nthz (encF big x0 v (k + 1)) i = byt (v (k + 1)) 0 := by
 have hs : 1 ≤ szB big (k + 1) := by
  have := szE_bounds big false (k + 1) (by omega) hk
  simpa [szE] using this.1
 rw [encF_get big x0 v hk i, if_pos ⟨fun h2 => h7 h2.1, by omega, by omega⟩, ← h, Nat.sub_self]
theorem byt_small {x : Nat} (h : x ≤ 255) : byt x 0 = (x : Int) := by
 have := byt_shr x 0
 simp at this
 omega
theorem okD_blk {big : Bool} {v : Nat → Nat} {z1 z2 : List Int} (hP : ParOk big v) (h1 : z1.length ≤ sB big) (h2 : z2.length ≤ sB big) : okD big false (blkP big v z1 z2) ∧ nthz (blkP big v z1 z2) 1 = (v 2 : Nat) := by
 have hs : 8 ≤ sB big := by cases big <;> decide
 have hm : mB big ≤ 64 := by cases big <;> decide
 obtain ⟨p1, p2, p3, p4, -, p6, p7⟩ := hP.p
 have g0 : nthz (blkP big v z1 z2) 0 = (v 1 : Nat) := by
  rw [blk_get h1 h2 (by omega), encF_step 8 (by omega) (by cases big <;> decide), encF_step 7 (by omega) (by cases big <;> decide), encF_step 6 (by omega) (by cases big <;> decide), encF_step 5 (by omega) (by cases big <;> decide), encF_step 4 (by omega) (by cases big <;> decide),
   encF_step 3 (by omega) (by cases big <;> decide), encF_step 2 (by omega) (by cases big <;> decide), encF_step 1 (by omega) (by cases big <;> decide), encF_hit 0 (by omega) (by omega) (by cases big <;> rfl)]
  exact byt_small (x := v 1) (by omega)
 have g1 : nthz (blkP big v z1 z2) 1 = (v 2 : Nat) := by
  rw [blk_get h1 h2 (by omega), encF_step 8 (by omega) (by cases big <;> decide), encF_step 7 (by omega) (by cases big <;> decide), encF_step 6 (by omega) (by cases big <;> decide), encF_step 5 (by omega) (by cases big <;> decide), encF_step 4 (by omega) (by cases big <;> decide),
   encF_step 3 (by omega) (by cases big <;> decide), encF_step 2 (by omega) (by cases big <;> decide), encF_hit 1 (by omega) (by omega) (by cases big <;> rfl)]
  exact byt_small (x := v 2) (by omega)
 have g3 : nthz (blkP big v z1 z2) 3 = (v 4 : Nat) := by
  rw [blk_get h1 h2 (by omega), encF_step 8 (by omega) (by cases big <;> decide), encF_step 7 (by omega) (by cases big <;> decide), encF_step 6 (by omega) (by cases big <;> decide), encF_step 5 (by omega) (by cases big <;> decide), encF_step 4 (by omega) (by cases big <;> decide),
   encF_hit 3 (by omega) (by omega) (by cases big <;> rfl)]
  exact byt_small (x := v 4) (by omega)
 have h9 : atB big 9 < 2 * sB big := by cases big <;> decide
 have g9 : nthz (blkP big v z1 z2) (atB big 9) = (v 9 : Nat) := by
  rw [blk_get h1 h2 h9, encF_hit 8 (by omega) (by omega) rfl]
  exact byt_small (x := v 9) (by omega)
 refine ⟨⟨blkP_length h1 h2, fun hb i i1 i2 => ?_, fun h => (by cases h), ?_⟩, g1⟩
 ·subst hb
  have hsi : i < 2 * sB true := i2
  have ha : ∀ k, k < 9 → ¬ (atB true (k + 1) ≤ i ∧ i < atB true (k + 1) + szB true (k + 1)) := fun k hk h => by
   have : atB true (k + 1) + szB true (k + 1) ≤ 18 := by
    rcases (show k = 0 ∨ k = 1 ∨ k = 2 ∨ k = 3 ∨ k = 4 ∨ k = 5 ∨ k = 6 ∨ k = 7 ∨ k = 8 by omega) with rfl | rfl | rfl | rfl | rfl | rfl | rfl | rfl | rfl <;> decide
   omega
  rw [blk_get h1 h2 hsi, encF_step 8 (by omega) (ha 8 (by omega)), encF_step 7 (by omega) (ha 7 (by omega)), encF_step 6 (by omega) (ha 6 (by omega)), encF_step 5 (by omega) (ha 5 (by omega)), encF_step 4 (by omega) (ha 4 (by omega)), encF_step 3 (by omega) (ha 3 (by omega)),
   encF_step 2 (by omega) (ha 2 (by omega)), encF_step 1 (by omega) (ha 1 (by omega)), encF_step 0 (by omega) (ha 0 (by omega)), encF_zero]
 ·rw [g0, g1, g3, g9]
  exact ⟨p1, p2, fun _ => p4.1, p7⟩
end Go.Proofs.Ytchepcilkcdemaa
namespace Go.Proofs.Ytchepcilkcdemaa
open Go.ChangeShapes Go.WideShapes Go.ChangeAt Go.RowKit Go.Joins Go.Shelf Go.Maps
open Go.Lib (hid)
attribute [local go_sem] Oper.semAt_some
theorem nthz_sub' {zs : List Int} {i p n : Nat} (h : i < n) : nthz ((zs.drop p).take n) i = nthz zs (p + i) := by
 unfold nthz; simp [List.getD_eq_getElem?_getD, List.getElem?_take, h, List.getElem?_drop]
theorem hold_nth' {w w' : World} {a : Option Addr} {n c : Nat} {zs : List Int} (h : Hold w (.slice a n c) zs) (hb : Below w.heap.size w w') {j : Nat} (hj : j < zs.length) : ∃ b off, a = some ⟨b, off, none⟩ ∧ b < w'.heap.size ∧ w'.cell? ⟨b, off + j, none⟩ = some (.int .u8 (nthz zs j)) ∧ 0 ≤ nthz zs j ∧ nthz zs j ≤ 255 := by
 have hne : zs ≠ [] := fun e => by rw [e] at hj; simp at hj
 rcases h.2 with ⟨h2, -⟩ | ⟨ad, cap, e, -, -, h3⟩
 ·exact absurd h2 hne
 ·obtain ⟨b, off, rfl, h4, h5⟩ := h3.resolve_left hne
  simp only [Value.slice.injEq] at e
  exact ⟨b, off, e.1, Nat.lt_of_lt_of_le h4 hb.size, (hb.cell (p := ⟨b, off + j, none⟩) h4).trans (h5 j hj), (mem_nthz h.1 hj).2⟩
theorem padTake_snoc {n : Nat} {x : List Int} {j : Nat} (hj : j < n) (hx : x.length ≤ n) : (padZ n x).take (j + 1) = (padZ n x).take j ++ [if j < x.length then nthz x j else 0] := by
 have hl := padZ_length hx
 rw [take_snoc (zs := padZ n x) (by omega)]
 congr 2
 unfold padZ nthz
 simp only [List.getD_eq_getElem?_getD]
 by_cases h : j < x.length
 ·rw [if_pos h, List.getElem?_append_left h]
 ·rw [if_neg h, List.getElem?_append_right (by omega), List.getElem?_replicate, if_pos (by omega)]; rfl
/-- A state of sixteen words, of which the first eight count. -/
def st16 (h : List Int) : List Int := h ++ List.replicate 8 0
theorem st16_words {N : Nat} (hN : N ≤ 64) {h : List Int} (hh : Words N 8 h) : Words 64 16 (st16 h) := by
 refine ⟨by simp [st16, hh.1], fun z hz => ?_⟩
 rcases List.mem_append.1 hz with hz | hz
 ·have := hh.2 z hz
  have h2 : (2 : Int) ^ N ≤ 2 ^ 64 := by exact_mod_cast Nat.pow_le_pow_right (by omega) hN
  omega
 ·rw [List.eq_of_mem_replicate hz]; decide
theorem st16_wd {h : List Int} (hh : h.length = 8) {j : Nat} (hj : j < 8) : wd (st16 h) j = wd h j := by
 unfold wd st16; simp [List.getD_eq_getElem?_getD, List.getElem?_append_left (show j < h.length by omega)]
/-- Laid over: the first j words of h. -/
def fillS (h b : List Int) (j : Nat) : List Int := h.take j ++ b.drop j
theorem fillS_set {h b : List Int} {j : Nat} (hj : j < h.length) (hb : j < b.length) : (fillS h b j).set j (wd h j) = fillS h b (j + 1) := by
 have e1 : h.take (j + 1) = h.take j ++ [wd h j] := by
  rw [List.take_succ_eq_append_getElem hj]; simp [wd, List.getD_eq_getElem?_getD, hj]
 have e2 : b.drop j = b[j] :: b.drop (j + 1) := List.drop_eq_getElem_cons hb
 have e3 : (h.take j).length = j := by simp; omega
 unfold fillS
 rw [e1, e2, List.set_append_right _ _ (by omega), e3, Nat.sub_self, List.set_cons_zero]
 simp
theorem fillS_length {h b : List Int} {j : Nat} (hj : j ≤ h.length) (hb : j ≤ b.length) : (fillS h b j).length = b.length := by simp [fillS]; omega
theorem arr_get {k : IntKind} {L : List Int} {j : Nat} (hj : j < L.length) : (arrV k L)[j]? = some (.int k (wd L j)) := by
 simp [arrV, wd, List.getD_eq_getElem?_getD, hj]
theorem Holds8.mono_below' {w w' : World} {v : Value} {zs : List Int} {B : Nat} (h : Holds8 w v zs) (hb : Below B w w') (hB : w.heap.size ≤ B) : Holds8 w' v zs := holds8_below h (hb.mono hB)
def Z8 : List Int := List.replicate 8 0
theorem fill_all {R h : List Int} (hR : R.length = 8) (hh : h.length = 8) : fillS R (st16 h) 8 = st16 R := by
 unfold fillS st16
 rw [List.take_of_length_le (by omega), List.drop_append_of_le_length (by omega), List.drop_of_length_le (by omega), List.nil_append]
/-- The cells of the reference's node. -/
def rN (kd : Int) (v : Nat → Nat) (sa pe kv : Value) (la : Bool) (mv : Value) (cnt : Int) : Array Value := #[.int .i64 kd, .int .i64 (v 1 : Nat), .int .i64 (v 2 : Nat), .int .i64 (v 3 : Nat), .int .i64 (v 4 : Nat), .int .u32 (v 5 : Nat), .int .u64 (v 6 : Nat), .int .u32 (v 7 : Nat), .int .i64 (v 8 : Nat), .int .i64 (v 9 : Nat), sa, pe, kv, .bool la, .int .u64 0, .int .u64 0, .int .u64 0, .int .u64 0, .int .u64 0, .int .u64 0, .int .u64 0, .int .u64 0, .int .u64 0, .int .u64 0, .int .u64 0, .int .u64 0, .int .u64 0, .int .u64 0, .int .u64 0, .int .u64 0, .bool false, .int .u64 0, .int .u64 0, mv, .int .u64 cnt]
/-- The parameters' cells. -/
def parC (v : Nat → Nat) (sa pe : Value) : Array Value := #[.int .i64 (v 1 : Nat), .int .i64 (v 2 : Nat), .int .i64 (v 3 : Nat), .int .i64 (v 4 : Nat), .int .u32 (v 5 : Nat), .int .u64 (v 6 : Nat), .int .u32 (v 7 : Nat), .int .i64 (v 8 : Nat), .int .i64 (v 9 : Nat), sa, pe]
theorem rN_par (kd : Int) (v : Nat → Nat) (sa pe kv : Value) (la : Bool) (mv : Value) (cnt : Int) : ∀ j, j < (parC v sa pe).size → (rN kd v sa pe kv la mv cnt)[1 + j]? = (parC v sa pe)[j]? := by
 intro j hj
 have hj : j < 11 := hj
 rcases (show j = 0 ∨ j = 1 ∨ j = 2 ∨ j = 3 ∨ j = 4 ∨ j = 5 ∨ j = 6 ∨ j = 7 ∨ j = 8 ∨ j = 9 ∨ j = 10 by omega) with rfl | rfl | rfl | rfl | rfl | rfl | rfl | rfl | rfl | rfl | rfl <;> rfl
theorem setL_bounds {b zs : List Int} {p : Nat} (hb : ∀ z ∈ b, 0 ≤ z ∧ z ≤ 255) (hz : ∀ z ∈ zs, 0 ≤ z ∧ z ≤ 255) : ∀ z ∈ setL b p zs, 0 ≤ z ∧ z ≤ 255 := by
 intro z h
 unfold setL at h
 rcases List.mem_append.1 h with h | h
 ·rcases List.mem_append.1 h with h | h
  ·exact hb z (List.mem_of_mem_take h)
  ·exact hz z h
 ·exact hb z (List.mem_of_mem_drop h)
theorem encF_bounds (big x0 : Bool) (v : Nat → Nat) : ∀ k, ∀ z ∈ encF big x0 v k, 0 ≤ z ∧ z ≤ 255
 | 0, z, h => by rw [List.eq_of_mem_replicate h]; omega
 | k + 1, z, h => by
  rw [encF] at h
  split at h
  ·exact encF_bounds big x0 v k z h
  ·exact setL_bounds (encF_bounds big x0 v k) (bytesK_bounds _ _) z h
theorem blkP_bounds {big : Bool} {v : Nat → Nat} {z1 z2 : List Int} (h1 : ∀ z ∈ z1, 0 ≤ z ∧ z ≤ 255) (h2 : ∀ z ∈ z2, 0 ≤ z ∧ z ≤ 255) : ∀ z ∈ blkP big v z1 z2, 0 ≤ z ∧ z ≤ 255 :=
 setL_bounds (setL_bounds (encF_bounds _ _ _ _) h1) h2
/-- A tree that may be, with its bytes in memory. -/
structure TreeOk (t : TreeV) (kz z1 z2 : List Int) (w : World) : Prop where
 v : t.validE = 0
 l : 0 ≤ t.l ∧ t.l ≤ 4294967295
 k : Hold w (.slice t.ka t.kl t.kc) kz
 s : Hold w (.slice t.sa t.sl t.sc) z1
 p : Hold w (.slice t.pa t.pl t.pc) z2
theorem TreeOk.below {t : TreeV} {kz z1 z2 : List Int} {w w' : World} (h : TreeOk t kz z1 z2 w) (hb : Below w.heap.size w w') : TreeOk t kz z1 z2 w' := ⟨h.v, h.l, h.k.below hb, h.s.below hb, h.p.below hb⟩
theorem hold_len {w : World} {a : Option Addr} {n c : Nat} {zs : List Int} (h : Hold w (.slice a n c) zs) : zs.length = n := by
 obtain ⟨a', c', e, -, -⟩ := h.slice
 simp only [Value.slice.injEq] at e
 exact e.2.1.symm
/-- What a node gives. -/
def TreeV.node (t : TreeV) (kz z1 z2 : List Int) (row i : Nat) (la rt : Bool) (d : List Int) : List Int := callR t.big (t.blk z1 z2 row i) (keyL row kz) la (t.outN rt) d
theorem TreeV.node_bounds (t : TreeV) (kz z1 z2 : List Int) (row i : Nat) (la rt : Bool) (d : List Int) : ∀ a ∈ t.node kz z1 z2 row i la rt d, 0 ≤ a ∧ a ≤ 255 := fun a ha => outZ_bounds _ _ _ _ a (List.mem_of_mem_take ha)
theorem nodeCall_any (big : Bool) (bs kz ds : List Int) (la : Bool) (o : Int) (bv kv dv : Value) (w : World) (hB : Hold w bv bs) (hK : Hold w kv kz) (hD : Hold w dv ds) (hdl : (ds.length : Int) ≤ 140737488355200) (hok : okD big false bs) (hkb0 : keyBad bs kz = false) (ho : 1 ≤ o ∧ o ≤ (mB big : Nat)) :
  Calls Try.prog 25 #[.agg (callC (kB big) bv kv la o dv)] w fun e w' => CallIs big bs kz la o ds w e w' := by
 cases big
 ·exact call_false bs kz ds la o bv kv dv w hB hK hD hdl hok hkb0 ho
 ·exact call_true bs kz ds la o bv kv dv w hB hK hD hdl hok hkb0 ho
/-- A node's block and key may be. -/
theorem TreeOk.okD {t : TreeV} {kz z1 z2 : List Int} {w : World} (h : TreeOk t kz z1 z2 w) {row at_ : Nat} (hr : row ≤ 255) (ha : at_ < 281474976710656) :
  Go.Proofs.Ytchepcilkcdemaa.okD t.big false (t.blk z1 z2 row at_) ∧ keyBad (t.blk z1 z2 row at_) (keyL row kz) = false ∧ (∀ z ∈ t.blk z1 z2 row at_, 0 ≤ z ∧ z ≤ 255) ∧ ∀ rt : Bool, 1 ≤ t.outN rt ∧ t.outN rt ≤ (mB t.big : Nat) := by
 have hvf := TreeV.valid_facts h.v
 have hmb := TreeV.mB_big h.v
 have e1 := hold_len h.s
 have e2 := hold_len h.p
 have e3 := hold_len h.k
 obtain ⟨h1, h2⟩ := okD_blk (z1 := z1) (z2 := z2) (TreeV.parOk h.v h.l hr ha) (by omega) (by omega)
 refine ⟨h1, ?_, blkP_bounds h.s.1 h.p.1, fun rt => ?_⟩
 ·have h3 : nthz (t.blk z1 z2 row at_) 1 = (t.kl : Int) := h2
  unfold keyBad keyL
  rw [h3]
  refine decide_eq_false ?_
  split
  ·omega
  ·simp
 ·obtain ⟨-, d1, d2, d3, d4, -⟩ := hvf
  cases rt
  ·show 1 ≤ t.i ∧ t.i ≤ _; omega
  ·show 1 ≤ t.d ∧ t.d ≤ _; omega
theorem node_ok {t : TreeV} {kz z1 z2 : List Int} {w : World} (h : TreeOk t kz z1 z2 w) {row at_ : Nat} (hr : row ≤ 255) (ha : at_ < 281474976710656) (la rt : Bool) (ds : List Int) (dv bv kv : Value) (W : World) (b : Nat)
  (ho : W.ownsRow b 5 1 bv (mB t.big) ((t.blk z1 z2 row at_).map encB)) (hk : W.ownsRow b 5 1 kv (keyL row kz).length ((keyL row kz).map encB)) (hd : Hold W dv ds) (hl : ds.length ≤ 1073741824) :
  Calls Try.prog 25 #[.agg (callC t.k bv kv la (t.outN rt) dv)] W fun e w' => ∃ u, e = .returned (.tuple #[u, .int .i64 0]) ∧ OwnB W.heap.size w' u (t.node kz z1 z2 row at_ la rt ds) ∧ Below W.heap.size W w' := by
 obtain ⟨h1, h2, h3, h4⟩ := h.okD hr ha
 have hkz : ∀ z ∈ keyL row kz, 0 ≤ z ∧ z ≤ 255 := fun z hz => by
  unfold keyL at hz
  split at hz
  ·exact h.k.1 z hz
  ·cases hz
 rw [← TreeV.kB_big h.v]
 refine (nodeCall_any t.big _ _ ds la _ bv kv dv W (hold_of_own ho h3) (hold_of_own hk hkz) hd (by omega) h1 h2 (h4 rt)).mono ?_
 rintro e w' ⟨⟨u, rfl, hu⟩, hb⟩
 exact ⟨u, rfl, ⟨TreeV.node_bounds t kz z1 z2 row at_ la rt ds, hu⟩, hb⟩
/-- A row's outputs, the first m. -/
def TreeV.rowZ (t : TreeV) (kz z1 z2 : List Int) (row : Nat) (rt : Bool) (L : List (List Int)) (m : Nat) : List (List Int) := (List.range m).map fun i => t.node kz z1 z2 row i (decide (i + 1 = L.length)) rt (nthL L i)
theorem TreeV.rowZ_succ (t : TreeV) (kz z1 z2 : List Int) (row : Nat) (rt : Bool) (L : List (List Int)) (m : Nat) : t.rowZ kz z1 z2 row rt L (m + 1) = t.rowZ kz z1 z2 row rt L m ++ [t.node kz z1 z2 row m (decide (m + 1 = L.length)) rt (nthL L m)] := by simp [TreeV.rowZ, List.range_succ]
theorem TreeV.rowZ_length (t : TreeV) (kz z1 z2 : List Int) (row : Nat) (rt : Bool) (L : List (List Int)) (m : Nat) : (t.rowZ kz z1 z2 row rt L m).length = m := by simp [TreeV.rowZ]
/-- A call of a node, told. -/
structure CallS where
 k : Int
 bs : List Int
 kz : List Int
 la : Bool
 o : Int
 ds : List Int
def CallS.zero : CallS := ⟨0, [], [], false, 0, []⟩
/-- Bytes that stay: of one's own, or those of the first world. -/
def KeepH (w0 : World) (B : Nat) (w : World) (v : Value) (z : List Int) : Prop := OwnB B w v z ∨ Hold w0 v z ∧ Below w0.heap.size w0 w
theorem KeepH.hold {w0 w : World} {B : Nat} {v : Value} {z : List Int} (h : KeepH w0 B w v z) : Hold w v z := by
 rcases h with h | ⟨h, hb⟩
 ·exact h.hold
 ·exact h.below hb
theorem KeepH.kb {w0 w w' : World} {B b : Nat} {v : Value} {z : List Int} (h : KeepH w0 B w v z) (hb : w0.heap.size ≤ b) (k : KB b w w') : KeepH w0 B w' v z := by
 rcases h with h | ⟨h, h2⟩
 ·exact .inl (h.kb k)
 ·exact .inr ⟨h, h2.trans (k.below.mono hb)⟩
theorem KeepH.le {w0 w : World} {B b : Nat} {v : Value} {z : List Int} (h : KeepH w0 B w v z) (hb : b ≤ B) : KeepH w0 b w v z := by
 rcases h with h | h
 ·exact .inl (h.le hb)
 ·exact .inr h
/-- A call's cells. -/
def CallAt (w0 : World) (B : Nat) (w : World) (s : CallS) (c : List Value) : Prop :=
 ∃ a1 n1 c1 a2 n2 c2 a3 n3 c3, c = [.int .i64 s.k, .slice a1 n1 c1, .slice a2 n2 c2, .bool s.la, .int .i64 s.o, .slice a3 n3 c3] ∧ OwnB B w (.slice a1 n1 c1) s.bs ∧ KeepH w0 B w (.slice a2 n2 c2) s.kz ∧ KeepH w0 B w (.slice a3 n3 c3) s.ds
theorem CallAt.kb {w0 w w' : World} {B b : Nat} {s : CallS} {c : List Value} (h : CallAt w0 B w s c) (hb : w0.heap.size ≤ b) (k : KB b w w') : CallAt w0 B w' s c := by
 obtain ⟨a1, n1, c1, a2, n2, c2, a3, n3, c3, e, h1, h2, h3⟩ := h
 exact ⟨a1, n1, c1, a2, n2, c2, a3, n3, c3, e, h1.kb k, h2.kb hb k, h3.kb hb k⟩
theorem CallAt.le {w0 w : World} {B b : Nat} {s : CallS} {c : List Value} (h : CallAt w0 B w s c) (hb : b ≤ B) : CallAt w0 b w s c := by
 obtain ⟨a1, n1, c1, a2, n2, c2, a3, n3, c3, e, h1, h2, h3⟩ := h
 exact ⟨a1, n1, c1, a2, n2, c2, a3, n3, c3, e, h1.le hb, h2.le hb, h3.le hb⟩
/-- A list of calls of one's own. -/
def CallsO (w0 : World) (B : Nat) (w : World) (v : Value) (S : List CallS) : Prop :=
 ∃ cs : List (List Value), cs.length = S.length ∧ w.ownsRow B 48 6 v S.length cs.flatten ∧ ∀ i, i < S.length → CallAt w0 B w (S.getD i .zero) (cs.getD i [])
theorem CallsO.nil (w0 : World) (B : Nat) (w : World) : CallsO w0 B w (.slice none 0 0) [] := ⟨[], rfl, World.ownsRow_nil _ _ _ _, fun i hi => by simp at hi⟩
theorem CallsO.kb {w0 w w' : World} {B b : Nat} {v : Value} {S : List CallS} (h : CallsO w0 B w v S) (hb : w0.heap.size ≤ b) (k : KB b w w') (hs : ∀ g, v.ownBlock = some g → w'.heap[g]? = w.heap[g]?) : CallsO w0 B w' v S := by
 obtain ⟨cs, hl, ho, hx⟩ := h
 refine ⟨cs, hl, ⟨ho.1, ?_⟩, fun i hi => (hx i hi).kb hb k⟩
 rcases ho.2 with h2 | ⟨g, cap, cur, rfl, h1, h2, h3⟩
 ·exact .inl h2
 ·exact .inr ⟨g, cap, cur, rfl, h1, by rw [hs g rfl]; exact h2, h3⟩
theorem own_block_lt {w : World} {B T n s : Nat} {v : Value} {xs : List Value} (ho : w.ownsRow B T s v n xs) : ∀ g, v.ownBlock = some g → g < w.heap.size := by
 intro g hg
 rcases ho.2 with ⟨rfl, -⟩ | ⟨g', cap, cur, rfl, -, h2, -⟩
 ·cases hg
 ·simp only [Value.ownBlock, Option.some.injEq] at hg
  subst hg
  exact (Array.getElem?_eq_some_iff.1 h2).1
theorem CallsO.below {w0 w w' : World} {B : Nat} {v : Value} {S : List CallS} (h : CallsO w0 B w v S) (hw : w0.heap.size ≤ w.heap.size) (k : Below w.heap.size w w') : CallsO w0 B w' v S := by
 refine h.kb hw (KB.of_below k (Nat.le_refl _)) fun g hg => ?_
 obtain ⟨cs, -, ho, -⟩ := h
 exact k.block g (own_block_lt ho g hg)
theorem CallsO.le {w0 w : World} {B b : Nat} {v : Value} {S : List CallS} (h : CallsO w0 B w v S) (hb : b ≤ B) : CallsO w0 b w v S := by
 obtain ⟨cs, hl, ho, hx⟩ := h
 exact ⟨cs, hl, ownsRow_le ho hb, fun i hi => (hx i hi).le hb⟩
theorem getD_snoc {α : Type} (L : List α) (x d : α) (i : Nat) : (L ++ [x]).getD i d = if i < L.length then L.getD i d else if i = L.length then x else d := by
 simp only [List.getD_eq_getElem?_getD]
 by_cases h : i < L.length
 ·rw [List.getElem?_append_left h, if_pos h]
 ·rw [if_neg h, List.getElem?_append_right (by omega)]
  by_cases h2 : i = L.length
  ·subst h2; simp
  ·rw [if_neg h2, List.getElem?_eq_none (by simp; omega)]; rfl
/-- One call more. -/
theorem CallsO.snoc {w0 w w' : World} {B : Nat} {v' : Value} {S : List CallS} {s : CallS} {cs : List (List Value)} {c : List Value} (hx : ∀ i, i < S.length → CallAt w0 B w (S.getD i .zero) (cs.getD i [])) (hl : cs.length = S.length) (hz : CallAt w0 B w s c)
  (ho : w'.ownsRow B 48 6 v' (S.length + 1) (cs.flatten ++ c)) (hb : w0.heap.size ≤ B) (hk : KB B w w') : CallsO w0 B w' v' (S ++ [s]) := by
 refine ⟨cs ++ [c], by simp [hl], by simpa using ho, fun i hi => ?_⟩
 simp only [List.length_append, List.length_singleton] at hi
 rw [getD_snoc, getD_snoc, hl]
 by_cases h : i < S.length
 ·rw [if_pos h, if_pos h]; exact (hx i h).kb hb hk
 ·rw [if_neg h, if_neg h, if_pos (by omega), if_pos (by omega)]; exact hz.kb hb hk
/-- Another row's block stays. -/
theorem own_spare {W W' : World} {B1 B2 T1 T2 s1 s2 n1 n2 : Nat} {v1 v2 : Value} {x1 x2 : List Value} (h1 : W.ownsRow B1 T1 s1 v1 n1 x1) (h2 : W.ownsRow B2 T2 s2 v2 n2 x2) (hT : T1 ≠ T2) (h : Spare (fun k => v1.ownBlock ≠ some k) W W') : ∀ g, v2.ownBlock = some g → W'.heap[g]? = W.heap[g]? := by
 intro g hg
 refine h.block g (own_block_lt h2 g hg) fun e => ?_
 rcases h1.2 with ⟨rfl, -⟩ | ⟨g1, k1, c1, rfl, -, p1, -⟩
 ·cases e
 rcases h2.2 with ⟨rfl, -⟩ | ⟨g2, k2, c2, rfl, -, p2, -⟩
 ·cases hg
 simp only [Value.ownBlock, Option.some.injEq] at e hg
 subst e hg
 rw [p1] at p2
 simp only [Option.some.injEq, Obj.cells.injEq] at p2
 exact hT p2.2.1
theorem own_keep {W W' : World} {B T s n : Nat} {v : Value} {xs : List Value} (h : W.ownsRow B T s v n xs) (hs : ∀ g, v.ownBlock = some g → W'.heap[g]? = W.heap[g]?) : W'.ownsRow B T s v n xs := by
 refine ⟨h.1, ?_⟩
 rcases h.2 with h2 | ⟨g, cap, cur, rfl, h1, h2, h3⟩
 ·exact .inl h2
 ·exact .inr ⟨g, cap, cur, rfl, h1, by rw [hs g rfl]; exact h2, h3⟩
theorem own_slice6 {W : World} {B T s n : Nat} {v : Value} {xs : List Value} (h : W.ownsRow B T s v n xs) : ∃ a n c, v = .slice a n c := by
 rcases h.2 with ⟨rfl, -⟩ | ⟨g, cap, cur, rfl, -⟩
 ·exact ⟨_, _, _, rfl⟩
 ·exact ⟨_, _, _, rfl⟩
/-- Lists of calls, one for each row. -/
def LevO (w0 : World) (B : Nat) (w : World) (v : Value) (SS : List (List CallS)) : Prop :=
 ∃ vs : List Value, w.ownsRow B 39 1 v SS.length vs ∧ ∀ i, i < SS.length → CallsO w0 B w (vs.getD i undef) (SS.getD i [])
theorem LevO.nil (w0 : World) (B : Nat) (w : World) : LevO w0 B w (.slice none 0 0) [] := ⟨[], World.ownsRow_nil _ _ _ _, fun i hi => by simp at hi⟩
theorem LevO.below {w0 w w' : World} {B : Nat} {v : Value} {SS : List (List CallS)} (h : LevO w0 B w v SS) (hw : w0.heap.size ≤ w.heap.size) (k : Below w.heap.size w w') : LevO w0 B w' v SS := by
 obtain ⟨vs, ho, hx⟩ := h
 exact ⟨vs, ownsRow_same' ho (fun g _ g2 => k.block g g2), fun i hi => (hx i hi).below hw k⟩
theorem LevO.le {w0 w : World} {B b : Nat} {v : Value} {SS : List (List CallS)} (h : LevO w0 B w v SS) (hb : b ≤ B) : LevO w0 b w v SS := by
 obtain ⟨vs, ho, hx⟩ := h
 exact ⟨vs, ownsRow_le ho hb, fun i hi => (hx i hi).le hb⟩
theorem LevO.snoc {w0 w w' : World} {B : Nat} {v v' x : Value} {SS : List (List CallS)} {S : List CallS} {vs : List Value} (ho : w.ownsRow B 39 1 v SS.length vs) (hx : ∀ i, i < SS.length → CallsO w0 B w (vs.getD i undef) (SS.getD i [])) (hz : CallsO w0 B w x S)
  (ho' : w'.ownsRow B 39 1 v' (SS.length + 1) (vs ++ [x])) (hb : w0.heap.size ≤ B) (hk : KB B w w') (hsp : Spare (fun k => v.ownBlock ≠ some k) w w') : LevO w0 B w' v' (SS ++ [S]) := by
 have hl : vs.length = SS.length := by have := ho.1; simpa using this
 have one : ∀ u S, CallsO w0 B w u S → CallsO w0 B w' u S := fun u S h => by
  refine h.kb hb hk fun g hg => ?_
  obtain ⟨cs, -, h2, -⟩ := h
  exact own_spare ho h2 (by decide) hsp g hg
 refine ⟨vs ++ [x], by simpa using ho', fun i hi => ?_⟩
 simp only [List.length_append, List.length_singleton] at hi
 rw [getD_snoc, getD_snoc, hl]
 by_cases h : i < SS.length
 ·rw [if_pos h, if_pos h]; exact one _ _ (hx i h)
 ·rw [if_neg h, if_neg h, if_pos (by omega), if_pos (by omega)]; exact one _ _ hz
theorem info_call : (Try.prog.info? 48).map (fun i => (i.zero, i.size, i.bytes)) = some (some (.agg #[.int .i64 0, .slice none 0 0, .slice none 0 0, .bool false, .int .i64 0, .slice none 0 0]), 6, 96) := by kernel_rfl
theorem info_calls : (Try.prog.info? 39).map (fun i => (i.zero, i.size, i.bytes)) = some (some (.slice none 0 0), 1, 24) := by kernel_rfl
theorem wpList_buildC {ops : Array Oper} {rest : List Oper} {o : Oper} {act : Act} {w : World} {Q : Exit → Act → World → Prop} (hg : o.guard = none) (x : Operand) (ho : o.op = .buildSlice 39 1 #[(0, x)]) (x0 x1 x2 x3 x4 x5 : Value) (hx : act.eval x = .agg #[x0, x1, x2, x3, x4, x5])
  (h : wpList Try.prog ops Q rest (act.put o.dst (.slice (some ⟨w.heap.size, 0, none⟩) 1 1)) (w.alloc (.cells #[x0, x1, x2, x3, x4, x5] 48))) : wpList Try.prog ops Q (o :: rest) act w := by
 obtain ⟨ib, hib, hzb, hsb, -⟩ := info_parts info_call
 exact wpList_buildSlice hg 39 48 1 _ ho #[x0, x1, x2, x3, x4, x5] ib _ Try.underlying39 hib hzb (by rw [hsb]; decide) (by rw [hsb]; decide) (by rw [hsb, show Array.range (1 * 6) = #[0, 1, 2, 3, 4, 5] by decide]; simp [hx, Instr.fill, Value.cells]) h
/-- A node's call. -/
def TreeV.callS (t : TreeV) (kz z1 z2 : List Int) (row i : Nat) (la rt : Bool) (d : List Int) : CallS := ⟨t.k, t.blk z1 z2 row i, keyL row kz, la, t.outN rt, d⟩
/-- A row's calls, the first m. -/
def TreeV.rowC (t : TreeV) (kz z1 z2 : List Int) (row : Nat) (rt : Bool) (L : List (List Int)) (m : Nat) : List CallS := (List.range m).map fun i => t.callS kz z1 z2 row i (decide (i + 1 = L.length)) rt (nthL L i)
theorem TreeV.rowC_succ (t : TreeV) (kz z1 z2 : List Int) (row : Nat) (rt : Bool) (L : List (List Int)) (m : Nat) : t.rowC kz z1 z2 row rt L (m + 1) = t.rowC kz z1 z2 row rt L m ++ [t.callS kz z1 z2 row m (decide (m + 1 = L.length)) rt (nthL L m)] := by simp [TreeV.rowC, List.range_succ]
theorem TreeV.rowC_length (t : TreeV) (kz z1 z2 : List Int) (row : Nat) (rt : Bool) (L : List (List Int)) (m : Nat) : (t.rowC kz z1 z2 row rt L m).length = m := by simp [TreeV.rowC]
theorem cutZ_len {n : Nat} (zs : List Int) (hn : 1 ≤ n) : 1 ≤ (cutZ n zs).length ∧ (cutZ n zs).length ≤ zs.length + 1 := by
 unfold cutZ
 split
 ·exact ⟨Nat.le_refl _, by simp⟩
 ·rename_i h
  have h1 := List.length_pos_iff.2 h
  rw [pieces_length]
  have := cdiv_le (n := zs.length) hn
  have := cdiv_pos (d := n) (show 1 ≤ zs.length from h1)
  omega
theorem cutZ_nth {n : Nat} (zs : List Int) (i : Nat) : (nthL (cutZ n zs) i).length ≤ zs.length := by
 unfold cutZ
 split
 ·cases i <;> simp [nthL]
 ·unfold nthL pieces
  rw [List.getD_eq_getElem?_getD, List.getElem?_map]
  cases (List.range (cdiv zs.length n))[i]? with
  | none => simp
  | some j => exact (piece_sub n zs j).length_le
theorem leaves_ok (t : TreeV) (kz z1 z2 zs : List Int) (v : Value) (w : World) (h : TreeOk t kz z1 z2 w) (hv : Hold w v zs) (hn : zs.length ≤ 4194304) :
  Calls Try.prog 9 #[t.val, v] w fun e w' => ∃ u, e = .returned (.tuple #[u, .int .i64 0]) ∧ ListO w.heap.size w' u (t.rowZ kz z1 z2 0 false (cutZ t.ln zs) (cutZ t.ln zs).length) ∧ Below w.heap.size w w' := by
 obtain ⟨b0, hb0⟩ : ∃ b0, w.heap.size = b0 := ⟨_, rfl⟩
 have HT := hid h
 have HV := hid hv
 obtain ⟨ib, hib, hzb, hsb, hbb⟩ := info_parts info_bytes
 have hvl := valid_any t
 simp only [h.v] at hvl
 have HVL := hid hvl
 obtain ⟨va, vc, rfl, -, -⟩ := hv.slice
 have hbA : Below b0 w (w.alloc (.cells #[.int .i64 t.k, .int .i64 t.d, .int .i64 t.f, .int .i64 t.p, .int .u32 t.l, .int .i64 t.i, .slice t.ka t.kl t.kc, .slice t.sa t.sl t.sc, .slice t.pa t.pl t.pc] 26)) := by rw [← hb0]; exact (Below.refl _ _).alloc (Nat.le_refl _) _
 have hrA := World.alloc_heap_new w (.cells #[.int .i64 t.k, .int .i64 t.d, .int .i64 t.f, .int .i64 t.p, .int .u32 t.l, .int .i64 t.i, .slice t.ka t.kl t.kc, .slice t.sa t.sl t.sc, .slice t.pa t.pl t.pc] 26)
 rw [hb0] at hrA
 have hln : 1 ≤ t.ln := by
  have := (TreeV.valid_facts h.v).2.2.2.2.2.2.2.2.1
  have := h.l
  unfold TreeV.ln; omega
 have hcl := cutZ_len zs hln
 have hcn := fun i => cutZ_nth (n := t.ln) zs i
 have HCN := hid hcn
 have HCU := hid (fun (W : World) (hb : Below b0 w W) => cut_ok t h.v h.l zs (.slice va zs.length vc) W (hv.below (hb0 ▸ hb)) (by omega))
 generalize cutZ t.ln zs = L at *
 clear h hv hvl hln hcn
 unfold TreeV.val
 go_enter Try.func9, Try.ntmps9
 go_upto_region 1 with (fail)
 generalize w.alloc (.cells #[.int .i64 t.k, .int .i64 t.d, .int .i64 t.f, .int .i64 t.p, .int .u32 t.l, .int .i64 t.i, .slice t.ka t.kl t.kc, .slice t.sa t.sl t.sc, .slice t.pa t.pl t.pc] 26) = wA at *
 go_wp2_with ((with_reducible show wpList _ _ _ (Oper.mk _ (Op.load 26 _) _ _ _ _ :: _) _ _); refine wpList_load_row rfl 26 _ rfl b0 rfl _ _ _ _ hrA Try.underlying26 rfl (by kernel_rfl) ?_)
 refine (HVL.out wA).mono ?_; rintro e w2 ⟨rfl, hb2⟩
 have hr2 := rowStay hrA hb2
 have hB2 : Below b0 w w2 := hbA.trans (hb2.mono (by have := (Array.getElem?_eq_some_iff.1 hrA).1; omega))
 clear hrA hbA hb2
 go_wp2_with ((with_reducible show wpList _ _ _ (Oper.mk _ (Op.load 26 _) _ _ _ _ :: _) _ _); refine wpList_load_row rfl 26 _ rfl b0 rfl _ _ _ _ hr2 Try.underlying26 rfl (by kernel_rfl) ?_)
 refine (HCU.out w2 hB2).mono ?_; rintro e w3 ⟨lv, rfl, hlo, hb3⟩
 have hr3 := rowStay hr2 hb3
 have hb02 := (Array.getElem?_eq_some_iff.1 hr2).1
 have hs3 := hb3.size
 have HLO := hid (hlo.le (show b0 ≤ w2.heap.size by omega))
 have HB3 := hid (hB2.trans (hb3.mono (by omega)))
 have HR3 := hid hr3
 obtain ⟨la, lc, rfl, hlc1, hlc2, -⟩ := hlo.hold
 clear hr2 hB2 hlo hb3 hr3 HVL HCU
 obtain ⟨bL, hbL⟩ : ∃ bL, w3.heap.size = bL := ⟨_, rfl⟩
 go_wp2_with fail
 go_loopw [7, 23] (fun s i wr => ∃ j : Nat, i = .int .i64 (j : Nat) ∧ j ≤ L.length ∧ ListO bL wr s (t.rowZ kz z1 z2 0 false L j) ∧ Below bL w3 wr) (fun _ i _ => L.length - (intOf i).toNat)
 case atStart => exact ⟨0, rfl, Nat.zero_le _, ListO.nil _ _, Below.refl _ _⟩
 case round =>
  obtain ⟨j, rfl, hj, ho, hb⟩ := hrel
  by_cases hlt : j < L.length
  case pos =>
   obtain ⟨la', lc', e, -, -, h3⟩ := (HLO.out.below (hbL ▸ hb)).hold
   obtain ⟨g, off, rfl, h4, h5⟩ := h3.resolve_left (fun e => by rw [e] at hlt; simp at hlt)
   simp only [Value.slice.injEq] at e
   obtain ⟨rfl, -, -⟩ := e
   obtain ⟨x, hx, hxh⟩ := h5 j hlt
   obtain ⟨xa, xc, rfl, -, -⟩ := hxh.slice
   have hlt2 : (j : Int) < L.length := by omega
   have hLn : (L.length : Int) ≤ 16777216 := by omega
   have hxl := HCN.out j
   have HXL := hid hxl
   obtain ⟨ql, hql⟩ : ∃ q : Bool, decide (j + 1 = L.length) = q := ⟨_, rfl⟩
   have hla : ((j : Int) == (L.length : Int) - 1) = ql := by
    rw [← hql, Bool.eq_iff_iff, beq_iff_eq, decide_eq_true_eq]; omega
   have HQL := hid hql
   have hju : IntKind.u64.wrap (j : Int) = (j : Int) := u64_wrap_id _ (by omega) (by omega)
   obtain ⟨vs, hvo, hvx⟩ := ho
   have hvl : vs.length = j := by have := hvo.1; rw [TreeV.rowZ_length] at this; omega
   rw [TreeV.rowZ_length] at hvo hvx
   have HVX := hid hvx
   obtain ⟨a8, n8, k8, rfl⟩ := own_slice hvo
   have HVO := hid hvo
   have HB := hid hb
   have HXH := hid hxh
   have hrr : wr.heap[b0]? = some (.cells #[.int .i64 t.k, .int .i64 t.d, .int .i64 t.f, .int .i64 t.p, .int .u32 t.l, .int .i64 t.i, .slice t.ka t.kl t.kc, .slice t.sa t.sl t.sc, .slice t.pa t.pl t.pc] 26 (0, 0)) := rowStay HR3.out (hbL ▸ hb)
   have hTr := HT.out.below (hb0 ▸ (HB3.out.trans (hb.mono (by omega))))
   have HTR := hid hTr
   have hbLr : bL ≤ wr.heap.size := by have := hb.size; omega
   clear hvo hvx hxl hql h5 h3 hxh hb hTr
   go_wp2_with ((with_reducible show wpList _ _ _ (Oper.mk _ (Op.load 26 _) _ _ _ _ :: _) _ _); refine wpList_load_row rfl 26 _ rfl b0 rfl _ _ _ _ hrr Try.underlying26 rfl (by kernel_rfl) ?_)
   refine (treeCall_ok t HTR.out.v HTR.out.l z1 z2 kz 0 j (by omega) (by omega) ql false xa (nthL L j).length xc wr HTR.out.s HTR.out.p HTR.out.k).mono ?_; rintro e w4 ⟨bv, kv, rfl, hbo, hko, hb4⟩
   have HX4 := hid (HXH.out.below hb4)
   have HBO := hid hbo
   have HKO := hid hko
   have HB4 := hid hb4
   clear hbo hko hb4
   go_wp2_with fail
   refine (node_ok HTR.out (row := 0) (at_ := j) (by omega) (by omega) ql false (nthL L j) (.slice xa (nthL L j).length xc) bv kv w4 wr.heap.size HBO.out HKO.out HX4.out (by have := HXL.out; omega)).mono ?_; rintro e w5 ⟨u, rfl, hO, hb5⟩
   obtain ⟨a6, k6, rfl, -, -⟩ := hO.hold.slice
   have hs4 := HB4.out.size
   have hs5 := hb5.size
   have HK5 := hid ((KB.of_below HB4.out hbLr).trans (KB.of_below hb5 (by omega)))
   have HO5 := hid (hO.le (show bL ≤ w4.heap.size by omega))
   have HV5 := hid (show w5.ownsRow bL 24 1 (.slice a8 n8 k8) j vs from ownsRow_same' (ownsRow_same' HVO.out (fun g _ g2 => HB4.out.block g g2)) (fun g _ g2 => hb5.block g g2))
   have hNd : t.node kz z1 z2 0 j ql false (nthL L j) = t.node kz z1 z2 0 j (decide (j + 1 = L.length)) false (nthL L j) := by rw [HQL.out]
   have HND := hid hNd
   generalize t.node kz z1 z2 0 j ql false (nthL L j) = N at *
   clear hb5 hO hNd HBO HKO HX4
   go_wp2_with (first | ((with_reducible show wpList _ _ _ (Oper.mk _ (Op.buildSlice _ _ _) _ _ _ _ :: _) _ _); refine wpList_build1 rfl _ rfl _ _ _ rfl ?_) | (at_builtin; refine wpList_push rfl _ _ _ rfl bL 24 (by decide) ib (.slice none 0 0) 1 24 Try.underlying28 hib hzb hsb hbb rfl (by decide) (.slice a8 n8 k8) j vs [.slice a6 N.length k6] _ rfl HV5.out rfl rfl (by simp [Value.oneCell']) (by unfold maxLen; omega) (by omega) (by omega) ?_; intro v' w' hown' hkb' hsp'))
   refine ⟨⟨j + 1, rfl, by omega, ?_, HB.out.trans (HK5.out.trans hkb').below⟩, by simp [intOf]; omega⟩
   rw [TreeV.rowZ_succ, ← HND.out]
   refine ListO.snoc (w := w5) (vs := vs) (x := .slice a6 N.length k6) (fun i hi => ?_) (by rw [TreeV.rowZ_length]; exact hvl) HO5.out (by rw [TreeV.rowZ_length]; exact hown') hkb'
   rw [TreeV.rowZ_length] at hi
   exact (HVX.out i hi).kb HK5.out
  obtain rfl : j = L.length := by omega
  have HO := hid (ho.le (show b0 ≤ bL by omega))
  have HB := hid (HB3.out.trans (hb.mono (show b0 ≤ bL by omega)))
  clear ho hb
  go_wp2
  go_ret2
  exact ⟨_, rfl, by rw [hb0]; exact HO.out, by rw [hb0]; exact HB.out⟩
theorem own_lt {W : World} {n b : Nat} {v : Value} {xs : List Value} (h : W.ownsRow 0 5 1 v n xs) (hb : v.ownBlock = some b) : b < W.heap.size := by
 rcases h.2 with ⟨rfl, -⟩ | ⟨g, cap, cur, rfl, h1, h2, -⟩
 ·cases hb
 ·simp only [Value.ownBlock, Option.some.injEq] at hb
  subst hb; exact (Array.getElem?_eq_some_iff.1 h2).1
theorem results_row_tmp3 {P : Program} {fn : Func} {p u1 u2 u3 : Tmp} {ty : TypeId} (h : fn.results = #[.cell p ty, .tmp u1, .tmp u2, .tmp u3]) (tmps : Array Value) (w : World) (g : Nat) (t : TypeId) (cs : Array Value) (fr : Nat × Nat) (d : TypeDesc)
  (hp : tmps.getD p undef = .pointer (some ⟨g, 0, none⟩)) (hg : w.heap[g]? = some (.cells cs t fr))
  (hu : P.underlying ty = some d) (hd : (match d with | .struct _ | .array _ _ => true | _ => false) = true) (hi : (P.info? ty).map (·.size) = some cs.size) :
  (results fn tmps).run P w = .ok (.tuple #[.agg cs, tmps.getD u1 undef, tmps.getD u2 undef, tmps.getD u3 undef]) w := by
 have hp' : tmps[p]?.getD undef = .pointer (some ⟨g, 0, none⟩) := by simpa using hp
 simp [results, h, hp', asAddr, run_loadVar_row w g t ty cs fr d hg hu hd hi]
theorem nbk_lt {n L k : Nat} (hn : 0 < n) (hk : k ≤ nbk n L) : (n * k + n < L ↔ k < nbk n L) := by
 have h1 := nbk_spec hn L
 have e : n * (k + 1) = n * k + n := Nat.mul_succ _ _
 constructor
 ·intro h
  refine Nat.lt_of_le_of_ne hk fun e2 => ?_
  rw [e2] at h; omega
 ·intro h
  have h2 : n * (k + 1) ≤ n * nbk n L := Nat.mul_le_mul_left _ h
  by_cases h0 : 0 < L
  ·have := h1.2.2 h0; omega
  ·have : L = 0 := by omega
   subst this; rw [nbk_zero] at h; omega
theorem bytesW_congr (n : Nat) {h g : List Int} : ∀ i, (∀ j, j < i → wd h j = wd g j) → bytesW n h i = bytesW n g i
 | 0, _ => rfl
 | i + 1, H => by rw [bytesW, bytesW, bytesW_congr n i (fun j hj => H j (by omega)), H i (by omega)]
theorem saltZ_le (big : Bool) (zs : List Int) : (saltZ big zs).length ≤ sB big := by
 unfold saltZ trimZ
 simp only [List.length_take]
 omega
theorem persZ_le (big : Bool) (zs : List Int) : (persZ big zs).length ≤ sB big := by
 unfold persZ trimZ
 simp only [List.length_take]
 omega
theorem saltZ_bounds {big : Bool} {zs : List Int} (hz : ∀ z ∈ zs, 0 ≤ z ∧ z ≤ 255) : ∀ z ∈ saltZ big zs, 0 ≤ z ∧ z ≤ 255 := fun z h => hz z (List.mem_of_mem_drop (List.mem_of_mem_take (List.mem_of_mem_take h)))
theorem persZ_bounds {big : Bool} {zs : List Int} (hz : ∀ z ∈ zs, 0 ≤ z ∧ z ≤ 255) : ∀ z ∈ persZ big zs, 0 ≤ z ∧ z ≤ 255 := fun z h => hz z (List.mem_of_mem_drop (List.mem_of_mem_take (List.mem_of_mem_take h)))
/-- What a block says is in bounds. -/
theorem parOk_dec {big : Bool} {zs : List Int} (hz : ∀ z ∈ zs, 0 ≤ z ∧ z ≤ 255) (h : okD big false zs) : ParOk big (decV big false zs) := by
 obtain ⟨hl, hm, hx, k1, k2, k4, k9⟩ := h
 have H := fun f h1 h2 => fldV_bounds (big := big) (ext := false) hz hl (f := f) h1 h2
 have hle : ∀ f, 1 ≤ f → f ≤ 9 → ((decV big false zs f : Nat) : Int) ≤ fldV big false zs f := fun f h1 h2 => by
  have := H f h1 h2
  unfold decV
  split <;> omega
 have e := fun f h1 h2 h3 => decV_eq (big := big) (ext := false) hz hl (f := f) h1 h2 h3
 have e1 := e 1 (by omega) (by omega) (by omega)
 have e2 := e 2 (by omega) (by omega) (by omega)
 have e4 := e 4 (by omega) (by omega) (by omega)
 have e9 := e 9 (by omega) (by omega) (by omega)
 have s1 : valZ zs (atB big 1) (szE big false 1) = nthz zs 0 := by cases big <;> simp [szE, szB, atB, val1]
 have s2 : valZ zs (atB big 2) (szE big false 2) = nthz zs 1 := by cases big <;> simp [szE, szB, atB, val1]
 have s4 : valZ zs (atB big 4) (szE big false 4) = nthz zs 3 := by cases big <;> simp [szE, szB, atB, val1]
 have s9 : valZ zs (atB big 9) (szE big false 9) = nthz zs (atB big 9) := by cases big <;> simp [szE, szB, atB, val1]
 have B : ∀ f n, 1 ≤ f → f ≤ 9 → szE big false f ≤ n → ((decV big false zs f : Nat) : Int) < 2 ^ (8 * n) := fun f n f1 f2 hs => by
  have h1 := (H f f1 f2).2; have h2 := hle f f1 f2
  have h3 : (2 : Int) ^ (8 * szE big false f) ≤ 2 ^ (8 * n) := by exact_mod_cast Nat.pow_le_pow_right (by decide : 0 < 2) (Nat.mul_le_mul_left 8 hs)
  omega
 refine ⟨⟨?_, ?_, ⟨by omega, ?_⟩, ⟨?_, ?_⟩, ⟨by omega, fun hb => ?_⟩, ⟨by omega, ?_⟩, ?_⟩, ?_, ?_, rfl⟩
 ·rw [e1, s1]; exact k1
 ·rw [e2, s2]; exact k2
 ·have := B 3 1 (by omega) (by omega) (by cases big <;> decide); omega
 ·rw [e4, s4]; exact k4 rfl
 ·have := B 4 1 (by omega) (by omega) (by cases big <;> decide); omega
 ·have := B 6 6 (by omega) (by omega) (by subst hb; decide); omega
 ·have := B 8 1 (by omega) (by omega) (by cases big <;> decide); omega
 ·rw [e9, s9]; exact k9
 ·have := B 5 4 (by omega) (by omega) (by cases big <;> decide); omega
 ·have := B 6 8 (by omega) (by omega) (by cases big <;> decide); omega
/-- What a hash answers. -/
def HashIs (big : Bool) (v : Nat → Nat) (z1 z2 kz : List Int) (la : Bool) (o : Int) (ds : List Int) (w : World) (e : Ending) (w' : World) : Prop :=
 (∃ u, e = .returned (.tuple #[u, .int .i64 0]) ∧ Fresh w.heap.size w' u ((outZ big (h0Z big (blkP big v z1 z2)) (keyZ (bB big) kz ++ ds) la).take o.toNat)) ∧ Below w.heap.size w w'
/-- The first m of fresh bytes, with the room behind them. -/
theorem fresh_head {base g c m : Nat} {W : World} {zs : List Int} (h : W.ownsRow base 5 1 (.slice (some ⟨g, 0, none⟩) zs.length c) zs.length (zs.map encB)) (hm : m ≤ zs.length) : Fresh base W (.slice (some ⟨g, 0, none⟩) m c) (zs.take m) := by
 obtain ⟨cur, h2, h3, h4, h5, h6, h7⟩ := own_row h
 have e : (zs.take m).length = m := by simp [List.length_take, Nat.min_eq_left hm]
 refine .inr ⟨g, c, cur, by rw [e], h5, h2, by omega, by omega, by omega, ?_⟩
 rw [e, List.map_take, ← h4, List.take_take, Nat.min_eq_left hm]
theorem bB_le (big : Bool) : mB big ≤ bB big ∧ bB big ≤ 128 := by cases big <;> decide
theorem decV_two {big ext : Bool} {zs : List Int} (hz : ∀ z ∈ zs, 0 ≤ z ∧ z ≤ 255) (hl : zs.length = mB big) : ((decV big ext zs 2 : Nat) : Int) = nthz zs 1 := by
 rw [decV_eq (big := big) (ext := ext) hz hl (f := 2) (by omega) (by omega) (by omega)]
 cases big <;> cases ext <;> simp [szE, szB, atB, val1]
theorem key_two {big ext : Bool} {bs kz : List Int} (hz : ∀ z ∈ bs, 0 ≤ z ∧ z ≤ 255) (hl : bs.length = mB big) (hk : keyBad bs kz = false) : kz.length = 0 ∨ kz.length = decV big ext bs 2 := by
 have h1 := decV_two (ext := ext) hz hl
 unfold keyBad at hk
 have h2 := of_decide_eq_false hk
 omega
theorem callIs_hash {big : Bool} {bs kz ds : List Int} {la : Bool} {o : Int} {w w0 : World} {e : Ending} {w' : World} (hz : ∀ z ∈ bs, 0 ≤ z ∧ z ≤ 255) (hok : okD big false bs) (hb : Below w0.heap.size w0 w) (h : HashIs big (decV big false bs) (saltZ big bs) (persZ big bs) kz la o ds w e w') :
  ∃ u, e = .returned (.tuple #[u, .int .i64 0]) ∧ CallIs big bs kz la o ds w0 (.returned (.tuple #[u, .int .i64 0])) w' := by
 obtain ⟨⟨u, rfl, h⟩, hb1⟩ := h
 rw [blkP_dec hz hok] at h
 exact ⟨u, rfl, ⟨u, rfl, h.le hb.size⟩, hb.trans (hb1.mono hb.size)⟩
end Go.Proofs.Ytchepcilkcdemaa
