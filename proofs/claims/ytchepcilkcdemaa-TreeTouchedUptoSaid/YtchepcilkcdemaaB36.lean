/- Lists of bytes in memory; all of them, one behind the other. No condition. -/
import Derived.Test.YtchepcilkcdemaaB29
import Derived.Test.YtchepcilkcdemaaB25
import Derived.Great.BuildSlice
import Derived.Test.YtchepcilkcdemaaB05
import Derived.Laws.CopyOwn
set_option linter.all false
set_option maxRecDepth 100000
set_option maxHeartbeats 8000000
namespace Go.Proofs.Ytchepcilkcdemaa
open Go.ChangeShapes Go.WideShapes Go.ChangeAt Go.RowKit Go.Joins Go.Shelf Go.Maps
open Go.Lib (hid)
attribute [local go_sem] Oper.semAt_some
/-- The world grows; what lies below B, and all bytes, stay. -/
structure KB (B : Nat) (w w' : World) : Prop where
 os : w'.os = w.os
 tape : w'.tape = w.tape
 output : w'.output = w.output
 size : w.heap.size ≤ w'.heap.size
 block : ∀ k : Nat, k < B → w'.heap[k]? = w.heap[k]?
 bytes : ∀ (k : Nat) (c : Array Value), w.heap[k]? = some (.cells c 5 (0, 0)) → w'.heap[k]? = some (.cells c 5 (0, 0))
namespace KB
variable {B : Nat} {w w' w'' : World}
theorem refl (B : Nat) (w : World) : KB B w w := ⟨rfl, rfl, rfl, Nat.le_refl _, fun _ _ => rfl, fun _ _ h => h⟩
theorem trans (h : KB B w w') (k : KB B w' w'') : KB B w w'' := ⟨k.os.trans h.os, k.tape.trans h.tape, k.output.trans h.output, Nat.le_trans h.size k.size, fun j hj => (k.block j hj).trans (h.block j hj), fun j c hc => k.bytes j c (h.bytes j c hc)⟩
theorem of_below (h : Below w.heap.size w w') (hB : B ≤ w.heap.size) : KB B w w' := ⟨h.os, h.tape, h.output, h.size, fun k hk => h.block k (by omega), fun k c hc => (h.block k (Array.getElem?_eq_some_iff.1 hc).1).trans hc⟩
theorem of_but {g : Nat} {c : Array Value} {T : TypeId} {fr : Nat × Nat} (h : But g w w') (hB : B ≤ w.heap.size) (hg : B ≤ g) (hc : w.heap[g]? = some (.cells c T fr)) (hT : T ≠ 5) : KB B w w' :=
 ⟨h.os, h.tape, h.output, h.size, fun k hk => h.block k (by omega) (by omega), fun k c' hc' => by
  rw [h.block k (Array.getElem?_eq_some_iff.1 hc').1 ?_]; exact hc'
  rintro rfl
  rw [hc] at hc'
  simp only [Option.some.injEq, Obj.cells.injEq] at hc'
  exact hT hc'.2.1⟩
theorem below (h : KB B w w') : Below B w w' := ⟨h.os, h.tape, h.output, h.size, h.block⟩
end KB
theorem Fresh.kb {B b : Nat} {w w' : World} {x : Value} {z : List Int} (h : Fresh B w x z) (k : KB b w w') : Fresh B w' x z := by
 rcases h with h | ⟨g, cap, cur, e, h1, h2, h3⟩
 ·exact .inl h
 ·exact .inr ⟨g, cap, cur, e, h1, k.bytes _ _ h2, h3⟩
theorem fresh_of_own {B n : Nat} {w : World} {x : Value} {z : List Int} (h : w.ownsRow B 5 1 x n (z.map encB)) : Fresh B w x z := by
 have hl : z.length = n := by have := h.1; simpa using this
 rcases h.2 with ⟨rfl, h0⟩ | ⟨g, cap, cur, rfl, h1, h2, h3, h4, h5, h6⟩
 ·exact .inl ⟨List.eq_nil_of_length_eq_zero (by omega), rfl⟩
 ·exact .inr ⟨g, cap, cur, by rw [hl], h1, h2, by omega, by omega, h4, by rw [hl]; simpa using h6⟩
theorem own_kb {B b n : Nat} {w w' : World} {x : Value} {xs : List Value} (h : w.ownsRow B 5 1 x n xs) (k : KB b w w') : w'.ownsRow B 5 1 x n xs := by
 refine ⟨h.1, ?_⟩
 rcases h.2 with h2 | ⟨g, cap, cur, e, h1, h2, h3⟩
 ·exact .inl h2
 ·exact .inr ⟨g, cap, cur, e, h1, k.bytes _ _ h2, h3⟩
/-- Bytes of one's own. -/
def OwnB (B : Nat) (w : World) (x : Value) (z : List Int) : Prop := (∀ a ∈ z, 0 ≤ a ∧ a ≤ 255) ∧ Fresh B w x z
theorem OwnB.kb {B b : Nat} {w w' : World} {x : Value} {z : List Int} (h : OwnB B w x z) (k : KB b w w') : OwnB B w' x z := ⟨h.1, h.2.kb k⟩
theorem OwnB.hold {B : Nat} {w : World} {x : Value} {z : List Int} (h : OwnB B w x z) : Hold w x z := h.2.hold h.1
theorem OwnB.le {B b : Nat} {w : World} {x : Value} {z : List Int} (h : OwnB B w x z) (hb : b ≤ B) : OwnB b w x z := ⟨h.1, h.2.le hb⟩
theorem OwnB.one {B : Nat} {w : World} {x : Value} {z : List Int} (h : OwnB B w x z) : x.oneCell' = true := by
 rcases h.2 with ⟨-, rfl⟩ | ⟨g, cap, cur, rfl, -⟩ <;> rfl
/-- The i-th of a list of bytes. -/
def nthL (L : List (List Int)) (i : Nat) : List Int := L.getD i []
/-- A list of bytes of one's own: a row of one's own. -/
def ListO (B : Nat) (w : World) (v : Value) (L : List (List Int)) : Prop :=
 ∃ vs, w.ownsRow B 24 1 v L.length vs ∧ ∀ i, i < L.length → OwnB B w (vs.getD i undef) (nthL L i)
/-- A slice of slices of bytes that can be read. -/
def ListH (w : World) (v : Value) (L : List (List Int)) : Prop :=
 ∃ a cap, v = .slice a L.length cap ∧ L.length ≤ cap ∧ (cap : Int) ≤ 9223372036854775807 ∧ (L = [] ∨ ∃ g off, a = some ⟨g, off, none⟩ ∧ g < w.heap.size ∧ ∀ i, i < L.length → ∃ x, w.cell? ⟨g, off + i, none⟩ = some x ∧ Hold w x (nthL L i))
theorem ListO.hold {B : Nat} {w : World} {v : Value} {L : List (List Int)} (h : ListO B w v L) : ListH w v L := by
 obtain ⟨vs, ho, hx⟩ := h
 have hl : vs.length = L.length := by have := ho.1; simpa using this
 rcases ho.2 with ⟨rfl, h0⟩ | ⟨g, cap, cur, rfl, h1, h2, h3, h4, h5, h6⟩
 ·exact ⟨none, 0, by rw [h0], by omega, by omega, .inl (List.eq_nil_of_length_eq_zero h0)⟩
 ·refine ⟨_, cap, rfl, h3, by unfold maxLen at h4; omega, .inr ⟨g, 0, rfl, (Array.getElem?_eq_some_iff.1 h2).1, fun i hi => ⟨vs.getD i undef, ?_, (hx i hi).hold⟩⟩⟩
  rw [cell_of_heap h2 (0 + i), Nat.zero_add]
  have e : cur.toList[i]? = vs[i]? := by rw [← h6, List.getElem?_take, if_pos (by omega)]
  rw [← Array.getElem?_toList, e, List.getD_eq_getElem?_getD, List.getElem?_eq_getElem (by omega)]; rfl
theorem ListH.below {w w' : World} {v : Value} {L : List (List Int)} (h : ListH w v L) (hb : Below w.heap.size w w') : ListH w' v L := by
 obtain ⟨a, cap, rfl, h1, h2, h3⟩ := h
 refine ⟨a, cap, rfl, h1, h2, ?_⟩
 rcases h3 with h3 | ⟨g, off, rfl, h4, h5⟩
 ·exact .inl h3
 ·refine .inr ⟨g, off, rfl, Nat.lt_of_lt_of_le h4 hb.size, fun i hi => ?_⟩
  obtain ⟨x, h6, h7⟩ := h5 i hi
  exact ⟨x, (hb.cell (p := ⟨g, off + i, none⟩) h4).trans h6, h7.below hb⟩
theorem nthL_mem {L : List (List Int)} {i : Nat} (hi : i < L.length) : nthL L i ∈ L := by
 unfold nthL; rw [List.getD_eq_getElem?_getD, List.getElem?_eq_getElem hi]; exact List.getElem_mem hi
theorem take_flat {L : List (List Int)} {k : Nat} (hk : k < L.length) : (L.take (k + 1)).flatten = (L.take k).flatten ++ nthL L k := by
 have e : L.take (k + 1) = L.take k ++ [nthL L k] := by
  unfold nthL
  rw [List.take_succ, List.getD_eq_getElem?_getD, List.getElem?_eq_getElem hk]; rfl
 rw [e, List.flatten_append]; simp
theorem flat_take_le (L : List (List Int)) (k : Nat) : (L.take k).flatten.length ≤ L.flatten.length := by
 conv => rhs; rw [← List.take_append_drop k L, List.flatten_append, List.length_append]
 omega
theorem joined_ok (L : List (List Int)) (v : Value) (w : World) (h : ListH w v L) (hn : L.flatten.length ≤ 70368744177664) :
  Calls Try.prog 41 #[v] w fun e w' => ∃ u, e = .returned u ∧ w'.ownsRow w.heap.size 5 1 u L.flatten.length (L.flatten.map encB) ∧ Below w.heap.size w w' := by
 obtain ⟨i0, hi, hz0, hz1, hz2⟩ := info_parts info_u8
 obtain ⟨b0, hb0⟩ : ∃ b0, w.heap.size = b0 := ⟨_, rfl⟩
 have HH := hid h
 obtain ⟨a, cap, rfl, hc1, hc2, -⟩ := h
 have hn2 : (L.length : Int) ≤ 9223372036854775807 := by omega
 have HN := hid hn
 clear hn
 go_enter Try.func41, Try.ntmps41
 go_wp2_with fail
 go_loopw [3, 8] (fun s i wr => ∃ k : Nat, i = .int .i64 (k : Nat) ∧ k ≤ L.length ∧ wr.ownsRow b0 5 1 s (L.take k).flatten.length ((L.take k).flatten.map encB) ∧ Below b0 w wr) (fun _ i _ => L.length - (intOf i).toNat)
 case atStart => exact ⟨0, rfl, Nat.zero_le _, World.ownsRow_nil _ _ _ _, Below.refl _ _⟩
 case round =>
  obtain ⟨k, rfl, hk, ho, hb⟩ := hrel
  by_cases hlt : k < L.length
  case pos =>
   obtain ⟨a', cap', e, -, -, h3⟩ := HH.out
   obtain ⟨g, off, rfl, h4, h5⟩ := h3.resolve_left (fun e => by rw [e] at hlt; simp at hlt)
   simp only [Value.slice.injEq] at e
   obtain ⟨rfl, -, -⟩ := e
   obtain ⟨x, hx, hxh⟩ := h5 k hlt
   have c0 : wr.cell? ⟨g, off + k, none⟩ = some x := (hb.cell (p := ⟨g, off + k, none⟩) (show g < b0 by omega)).trans hx
   have hg0 : g < wr.heap.size := by have := hb.size; omega
   have HX := hid (hxh.below (hb0 ▸ hb)).src
   have HO := hid ho
   have HB := hid hb
   have hfl := flat_take_le L (k + 1)
   rw [take_flat hlt, List.length_append] at hfl
   have HF := hid hfl
   have hlt2 : (k : Int) < L.length := by omega
   clear hx hxh h5 h4 h3 ho hb hfl
   go_wp2_with (at_builtin; refine wpList_append_now rfl _ _ _ rfl w b0 hb0.symm HB.out 5 i0 (.int .u8 0) 1 Try.underlying24 hi hz0 hz1 hz2 rfl _ _ _ rfl HO.out _ _ _ rfl HX.out (by have := HF.out; have := HN.out; unfold maxLen; omega) (by have := HF.out; have := HN.out; omega) ?_; intro v' w' hown' hb')
   refine ⟨⟨k + 1, rfl, by omega, ?_, hb'⟩, by simp [intOf]; omega⟩
   rw [take_flat hlt, List.length_append, List.map_append]; exact hown'
  obtain rfl : k = L.length := by omega
  rw [List.take_length] at ho
  have HO := hid ho
  have HB := hid hb
  clear ho hb
  go_wp2
  go_ret
  exact ⟨_, rfl, hb0 ▸ HO.out, hb0 ▸ HB.out⟩
/-- One element more behind a row of one's own: nothing else of it, and no bytes, turn. -/
theorem wpList_push {P : Program} {ops : Array Oper} {rest : List Oper} {o : Oper} {a : Act} {Q : Exit → Act → World → Prop} {W : World} (hgd : o.guard = none) (s x : Operand) (t : TypeId)
  (ho : o.op = .call { callee := .builtin .append, args := #[s, x], argTypes := #[t, t] }) (B : Nat) (e : TypeId) (he : e ≠ 5) (i : TypeInfo) (z : Value) (size bytes : Nat) (ht : P.underlying t = some (.slice e)) (hi : P.info? e = some i) (hz : i.zero = some z)
  (hsize : i.size = size) (hby : i.bytes = bytes) (hzs : z.cells.size = size) (hsz : 0 < size) (v : Value) (n : Nat) (xs us : List Value) (T : TypeId) (hs : a.eval s = v) (hown : W.ownsRow B e size v n xs)
  (hx : a.eval x = .slice (some ⟨W.heap.size, 0, none⟩) 1 1) (hl : us.length = size) (h1 : ∀ u ∈ us, u.oneCell' = true) (h63 : n + 1 ≤ maxLen) (hbytes : (n + 1) * bytes ≤ 140737488355328) (hB : B ≤ W.heap.size)
  (h : ∀ v' w', w'.ownsRow B e size v' (n + 1) (xs ++ us) → KB B W w' → Spare (fun k => v.ownBlock ≠ some k) W w' → wpList P ops Q rest (a.put o.dst v') w') : wpList P ops Q (o :: rest) a (W.alloc (.cells us.toArray T)) := by
 refine wpList_append_own _ hgd s x t ho B e i z size bytes ht hi hz hsize hby hzs hsz v n xs hs (hown.alloc _) ⟨W.heap.size, 0, none⟩ 1 1 us hx (by omega) (fun j u hj => ?_) h1 h63 hbytes (by simp; omega) fun v' w' h2 h3 _ => ?_
 ·rw [Go.WideShapes.add_plain, cell_of_heap (World.alloc_heap_new W _) (0 + j), Nat.zero_add]
  simpa using hj
 have hsp : Spare (fun k => v.ownBlock ≠ some k) W w' := (Spare.of_below _ ((Below.refl _ _).alloc (Nat.le_refl _) _)).trans (Spare.of_grown h3) (fun _ _ h => h)
 refine h v' w' h2 ⟨hsp.os, hsp.tape, hsp.output, hsp.size, fun k hk => hsp.block k (by omega) (fun e2 => ?_), fun k c hc => ?_⟩ hsp
 ·rcases hown.2 with ⟨rfl, -⟩ | ⟨g, cap, cur, rfl, h4, -⟩
  ·cases e2
  ·simp only [Value.ownBlock, Option.some.injEq] at e2; omega
 ·rw [hsp.block k (Array.getElem?_eq_some_iff.1 hc).1 (fun e2 => ?_)]
  ·exact hc
  ·rcases hown.2 with ⟨rfl, -⟩ | ⟨g, cap, cur, rfl, -, h5, -⟩
   ·cases e2
   ·simp only [Value.ownBlock, Option.some.injEq] at e2
    subst e2
    rw [h5] at hc
    simp only [Option.some.injEq, Obj.cells.injEq] at hc
    exact he hc.2.1
theorem ListO.nil (B : Nat) (w : World) : ListO B w (.slice none 0 0) [] := ⟨[], World.ownsRow_nil _ _ _ _, fun i hi => by simp at hi⟩
theorem ListO.kb {B b : Nat} {w w' : World} {v : Value} {L : List (List Int)} (h : ListO B w v L) (k : KB b w w') (hs : ∀ g, v.ownBlock = some g → w'.heap[g]? = w.heap[g]?) : ListO B w' v L := by
 obtain ⟨vs, ho, hx⟩ := h
 refine ⟨vs, ⟨ho.1, ?_⟩, fun i hi => (hx i hi).kb k⟩
 rcases ho.2 with h2 | ⟨g, cap, cur, rfl, h1, h2, h3⟩
 ·exact .inl h2
 ·exact .inr ⟨g, cap, cur, rfl, h1, (hs g rfl).trans h2, h3⟩
theorem ListO.below {B : Nat} {w w' : World} {v : Value} {L : List (List Int)} (h : ListO B w v L) (k : Below w.heap.size w w') : ListO B w' v L := by
 refine h.kb (KB.of_below k (Nat.zero_le _)) fun g hg => ?_
 obtain ⟨vs, ho, -⟩ := h
 rcases ho.2 with ⟨rfl, -⟩ | ⟨g', cap, cur, rfl, -, h2, -⟩
 ·cases hg
 ·simp only [Value.ownBlock, Option.some.injEq] at hg; subst hg
  exact k.block _ (Array.getElem?_eq_some_iff.1 h2).1
theorem ListO.le {B b : Nat} {w : World} {v : Value} {L : List (List Int)} (h : ListO B w v L) (hb : b ≤ B) : ListO b w v L := by
 obtain ⟨vs, ho, hx⟩ := h
 exact ⟨vs, ownsRow_le ho hb, fun i hi => (hx i hi).le hb⟩
/-- One list more. -/
theorem ListO.snoc {B : Nat} {w w' : World} {v' x : Value} {L : List (List Int)} {z : List Int} {vs : List Value} (hx : ∀ i, i < L.length → OwnB B w (vs.getD i undef) (nthL L i)) (hl : vs.length = L.length) (hz : OwnB B w x z)
  (ho : w'.ownsRow B 24 1 v' (L.length + 1) (vs ++ [x])) (hk : KB B w w') : ListO B w' v' (L ++ [z]) := by
 refine ⟨vs ++ [x], by simpa using ho, fun i hi => ?_⟩
 simp only [List.length_append, List.length_singleton] at hi
 by_cases h : i < L.length
 ·have e1 : (vs ++ [x]).getD i undef = vs.getD i undef := by simp [List.getD_eq_getElem?_getD, List.getElem?_append_left (show i < vs.length by omega)]
  have e2 : nthL (L ++ [z]) i = nthL L i := by simp [nthL, List.getD_eq_getElem?_getD, List.getElem?_append_left h]
  rw [e1, e2]; exact (hx i h).kb hk
 ·obtain rfl : i = L.length := by omega
  have e1 : (vs ++ [x]).getD L.length undef = x := by simp [List.getD_eq_getElem?_getD, ← hl]
  have e2 : nthL (L ++ [z]) L.length = z := by simp [nthL, List.getD_eq_getElem?_getD]
  rw [e1, e2]; exact hz.kb hk
theorem info_bytes : (Try.prog.info? 24).map (fun i => (i.zero, i.size, i.bytes)) = some (some (.slice none 0 0), 1, 24) := by kernel_rfl
theorem wpList_build1 {ops : Array Oper} {rest : List Oper} {o : Oper} {act : Act} {w : World} {Q : Exit → Act → World → Prop} (hg : o.guard = none) (x : Operand) (ho : o.op = .buildSlice 28 1 #[(0, x)]) (a : Option Addr) (n k : Nat) (hx : act.eval x = .slice a n k)
  (h : wpList Try.prog ops Q rest (act.put o.dst (.slice (some ⟨w.heap.size, 0, none⟩) 1 1)) (w.alloc (.cells #[.slice a n k] 24))) : wpList Try.prog ops Q (o :: rest) act w := by
 obtain ⟨ib, hib, hzb, hsb, -⟩ := info_parts info_bytes
 exact wpList_buildSlice hg 28 24 1 _ ho #[.slice a n k] ib _ Try.underlying28 hib hzb (by rw [hsb]; decide) (by rw [hsb]; decide) (by rw [hsb, show Array.range (1 * 1) = #[0] by decide]; simp [hx, Instr.fill, Value.cells]) h
end Go.Proofs.Ytchepcilkcdemaa
namespace Go.Proofs.Ytchepcilkcdemaa
open Go.ChangeShapes Go.WideShapes Go.ChangeAt Go.RowKit Go.Joins Go.Shelf Go.Maps
open Go.Lib (hid)
theorem lt_cdiv {n d j : Nat} (hd : 1 ≤ d) : j < cdiv n d ↔ j * d < n := by
 have h1 := Nat.div_add_mod n d
 have h2 := Nat.mod_lt n (show 0 < d by omega)
 unfold cdiv
 split
 ·rename_i h0
  rw [h0, Nat.add_zero] at h1
  conv => rhs; rw [← h1, Nat.mul_comm]
  exact (Nat.mul_lt_mul_left (show 0 < d by omega)).symm
 ·constructor
  ·intro h
   have h3 : j * d ≤ (n / d) * d := Nat.mul_le_mul_right d (by omega)
   rw [Nat.mul_comm (n / d) d] at h3
   omega
  ·intro h
   have h3 : j * d < (n / d + 1) * d := by rw [Nat.add_mul, Nat.one_mul, Nat.mul_comm (n / d) d]; omega
   exact Nat.lt_of_mul_lt_mul_right h3
/-- A list in pieces of n. -/
def piece {α : Type} (n : Nat) (L : List α) (i : Nat) : List α := (L.drop (i * n)).take n
def pieces {α : Type} (n : Nat) (L : List α) (m : Nat) : List (List α) := (List.range m).map (piece n L)
theorem pieces_succ {α : Type} (n : Nat) (L : List α) (m : Nat) : pieces n L (m + 1) = pieces n L m ++ [piece n L m] := by simp [pieces, List.range_succ]
theorem pieces_length {α : Type} (n : Nat) (L : List α) (m : Nat) : (pieces n L m).length = m := by simp [pieces]
/-- The leaves' data. -/
def cutZ (n : Nat) (zs : List Int) : List (List Int) := if zs = [] then [[]] else pieces n zs (cdiv zs.length n)
/-- A row's data, out of the outputs below. -/
def flats (f : Nat) (L : List (List Int)) (m : Nat) : List (List Int) := (List.range m).map fun i => (piece f L i).flatten
theorem flats_succ (f : Nat) (L : List (List Int)) (m : Nat) : flats f L (m + 1) = flats f L m ++ [(piece f L m).flatten] := by simp [flats, List.range_succ]
theorem flats_length (f : Nat) (L : List (List Int)) (m : Nat) : (flats f L m).length = m := by simp [flats]
def TreeV.rootZ (t : TreeV) (row n : Nat) : Bool := decide (t.f = 0 ∨ (row : Int) = t.p - 1 ∨ (n : Int) ≤ t.f)
def TreeV.upZ (t : TreeV) (row : Nat) (L : List (List Int)) : List (List Int) := if t.rootZ row L.length then [L.flatten] else flats t.fn L (cdiv L.length t.fn)
theorem flatten_le_of_sub {L M : List (List Int)} (h : M.Sublist L) : M.flatten.length ≤ L.flatten.length := by
 induction h with
 | slnil => exact Nat.le_refl _
 | cons a _ ih => simp only [List.flatten_cons, List.length_append]; omega
 | cons_cons a _ ih => simp only [List.flatten_cons, List.length_append]; omega
theorem piece_sub {α : Type} (n : Nat) (L : List α) (i : Nat) : (piece n L i).Sublist L := (List.take_sublist _ _).trans (List.drop_sublist _ _)
theorem nthL_drop (L : List (List Int)) (k i : Nat) : nthL (L.drop k) i = nthL L (k + i) := by simp [nthL, List.getD_eq_getElem?_getD, List.getElem?_drop]
theorem nthL_take {L : List (List Int)} {k i : Nat} (h : i < k) : nthL (L.take k) i = nthL L i := by simp [nthL, List.getD_eq_getElem?_getD, List.getElem?_take, h]
theorem ListH.take {w : World} {a : Option Addr} {n c k : Nat} {L : List (List Int)} (h : ListH w (.slice a n c) L) (hk : k ≤ L.length) : ListH w (.slice a k k) (L.take k) := by
 obtain ⟨a', c', e, h1, h2, h3⟩ := h
 simp only [Value.slice.injEq] at e
 obtain ⟨rfl, -, rfl⟩ := e
 have hl : (L.take k).length = k := by simp; omega
 refine ⟨a, k, by rw [hl], by omega, by omega, ?_⟩
 by_cases h0 : L.take k = []
 ·exact .inl h0
 rcases h3 with h3 | ⟨g, off, rfl, h4, h5⟩
 ·rw [h3] at h0; simp at h0
 ·refine .inr ⟨g, off, rfl, h4, fun i hi => ?_⟩
  obtain ⟨x, h6, h7⟩ := h5 i (by omega)
  exact ⟨x, h6, by rw [nthL_take (by omega)]; exact h7⟩
theorem ListH.drop {w : World} {a a' : Option Addr} {n c k n' c' : Nat} {L : List (List Int)} (h : ListH w (.slice a n c) L) (hk : k ≤ L.length) (hn : n' = L.length - k) (hc : c' = c - k) (g off : Nat) (ha : a = some ⟨g, off, none⟩) (ha' : a' = some ⟨g, off + k, none⟩ ∨ a' = some ⟨g, off, none⟩ ∧ c ≤ k) : ListH w (.slice a' n' c') (L.drop k) := by
 subst ha
 obtain ⟨a1, c1, e, h1, h2, h3⟩ := h
 simp only [Value.slice.injEq] at e
 obtain ⟨rfl, -, rfl⟩ := e
 refine ⟨a', c', by simp [hn], by simp; omega, by omega, ?_⟩
 by_cases h0 : L.drop k = []
 ·exact .inl h0
 have hlt : k < L.length := Nat.lt_of_not_le fun h4 => h0 (List.drop_eq_nil_of_le h4)
 rcases ha' with rfl | ⟨-, h4⟩
 ·rcases h3 with h3 | ⟨g', off', e, h4, h5⟩
  ·rw [h3] at hlt; simp at hlt
  ·simp only [Option.some.injEq, Addr.mk.injEq, and_true] at e
   obtain ⟨rfl, rfl⟩ := e
   refine .inr ⟨g, off + k, rfl, h4, fun i hi => ?_⟩
   obtain ⟨x, h6, h7⟩ := h5 (k + i) (by simp at hi; omega)
   exact ⟨x, by rw [Nat.add_assoc]; exact h6, by rw [nthL_drop]; exact h7⟩
 ·omega
end Go.Proofs.Ytchepcilkcdemaa
namespace Go.Proofs.Ytchepcilkcdemaa
open Go.ChangeShapes Go.WideShapes Go.ChangeAt Go.RowKit Go.Joins Go.Shelf Go.Maps
open Go.Lib (hid)
attribute [local go_sem] Oper.semAt_some
theorem listO_one {B : Nat} {w : World} {x : Value} {z : List Int} (hx : OwnB B w x z) (hB : B ≤ w.heap.size) : ListO B (w.alloc (.cells #[x] 24)) (.slice (some ⟨w.heap.size, 0, none⟩) 1 1) [z] := by
 refine ⟨[x], ⟨rfl, .inr ⟨w.heap.size, 1, #[x], rfl, hB, World.alloc_heap_new w _, Nat.le_refl _, by unfold maxLen; omega, rfl, rfl⟩⟩, fun i hi => ?_⟩
 obtain rfl : i = 0 := by simpa using hi
 exact hx.kb (KB.of_below ((Below.refl _ _).alloc (Nat.le_refl _) _) hB)
theorem bytes_flat {L : List (List Int)} (h : ∀ z ∈ L, ∀ a ∈ z, 0 ≤ a ∧ a ≤ 255) : ∀ a ∈ L.flatten, 0 ≤ a ∧ a ≤ 255 := fun a ha => by
 obtain ⟨z, hz, ha⟩ := List.mem_flatten.1 ha
 exact h z hz a ha
theorem ListH.bytes {w : World} {v : Value} {L : List (List Int)} (h : ListH w v L) : ∀ z ∈ L, ∀ a ∈ z, 0 ≤ a ∧ a ≤ 255 := fun z hz a ha => by
 obtain ⟨a', cap, -, -, -, h3⟩ := h
 rcases h3 with rfl | ⟨g, off, -, -, h5⟩
 ·cases hz
 ·obtain ⟨i, hi, rfl⟩ := List.mem_iff_getElem.1 hz
  obtain ⟨x, -, h7⟩ := h5 i hi
  have e : nthL L i = L[i] := by unfold nthL; rw [List.getD_eq_getElem?_getD, List.getElem?_eq_getElem hi]; rfl
  rw [e] at h7
  exact h7.1 a ha
theorem ownB_of_own {B n : Nat} {w : World} {x : Value} {z : List Int} (hz : ∀ a ∈ z, 0 ≤ a ∧ a ≤ 255) (h : w.ownsRow B 5 1 x n (z.map encB)) : OwnB B w x z := ⟨hz, fresh_of_own h⟩
theorem above_ok (t : TreeV) (h : t.validE = 0) (row : Nat) (hr : row ≤ 255) (L : List (List Int)) (v : Value) (w : World) (hL : ListH w v L) (hn : L.flatten.length ≤ 1073741824) (hn2 : L.length ≤ 16777216) (hne : L ≠ []) :
  Calls Try.prog 49 #[t.val, .int .i64 (row : Nat), v] w fun e w' => ∃ u, e = .returned (.tuple #[u, .bool (t.rootZ row L.length)]) ∧ ListO w.heap.size w' u (t.upZ row L) ∧ Below w.heap.size w w' := by
 obtain ⟨b0, hb0⟩ : ∃ b0, w.heap.size = b0 := ⟨_, rfl⟩
 have hvf := TreeV.valid_facts h
 have hf1 := hvf.2.2.2.2.2.1
 have hp1 : 2 ≤ t.p ∧ t.p ≤ 255 := ⟨hvf.2.2.2.2.2.2.1, hvf.2.2.2.2.2.2.2.1⟩
 have hroot : t.rootZ row L.length = decide (t.f = 0 ∨ (row : Int) = t.p - 1 ∨ (L.length : Int) ≤ t.f) := rfl
 have hup : t.upZ row L = if t.rootZ row L.length then [L.flatten] else flats t.fn L (cdiv L.length t.fn) := rfl
 have hfn : (t.fn : Int) = t.f := by unfold TreeV.fn; omega
 generalize t.upZ row L = U at *
 generalize t.rootZ row L.length = rt at *
 generalize t.fn = fn at *
 obtain ⟨k, d, f, p, l, i, ka, kl, kc, sa, sl, sc, pa, pl, pc⟩ := t
 unfold TreeV.val
 simp only at *
 clear hvf h
 have hlp : 0 < L.length := List.length_pos_iff.2 hne
 have HL := hid hL
 have HBY := hid hL.bytes
 have HN := hid hn
 have HUP := hid hup
 obtain ⟨a, cap, rfl, hc1, hc2, -⟩ := hL
 clear hup hne hn
 have hbA : Below b0 w (w.alloc (.cells #[.int .i64 k, .int .i64 d, .int .i64 f, .int .i64 p, .int .u32 l, .int .i64 i, .slice ka kl kc, .slice sa sl sc, .slice pa pl pc] 26)) := by rw [← hb0]; exact (Below.refl _ _).alloc (Nat.le_refl _) _
 have hrA := World.alloc_heap_new w (.cells #[.int .i64 k, .int .i64 d, .int .i64 f, .int .i64 p, .int .u32 l, .int .i64 i, .slice ka kl kc, .slice sa sl sc, .slice pa pl pc] 26)
 rw [hb0] at hrA
 go_enter Try.func49, Try.ntmps49
 go_upto_region 1 with (fail)
 generalize w.alloc (.cells #[.int .i64 k, .int .i64 d, .int .i64 f, .int .i64 p, .int .u32 l, .int .i64 i, .slice ka kl kc, .slice sa sl sc, .slice pa pl pc] 26) = wA at *
 have c2 : wA.cell? ⟨b0, 2, none⟩ = some (.int .i64 f) := cell_of_heap hrA 2
 have c3 : wA.cell? ⟨b0, 3, none⟩ = some (.int .i64 p) := cell_of_heap hrA 3
 have hbs : b0 < wA.heap.size := (Array.getElem?_eq_some_iff.1 hrA).1
 have HRA := hid hrA
 have HBA := hid hbA
 clear hrA hbA
 go_cut [2, 3, 26] from 1 (fun x y u W => x = .slice a L.length cap ∧ y = .pointer (some ⟨b0, 0, none⟩) ∧ u = .bool rt ∧ wA = W)
 case first =>
  by_cases h1 : f = 0
  case pos =>
   obtain rfl : rt = true := by rw [hroot]; exact decide_eq_true (.inl h1)
   have q1 : (f == 0) = true := by rw [beq_iff_eq]; exact h1
   clear hroot
   subst h1
   go_wp2
   go_meet
   case rel => exact ⟨rfl, rfl, rfl, by trivial⟩
  by_cases h2 : (row : Int) = p - 1
  case pos =>
   obtain rfl : rt = true := by rw [hroot]; exact decide_eq_true (.inr (.inl h2))
   clear hroot
   go_wp2
   go_meet
   case rel => exact ⟨rfl, rfl, rfl, by trivial⟩
  by_cases h3 : (L.length : Int) ≤ f
  case pos =>
   obtain rfl : rt = true := by rw [hroot]; exact decide_eq_true (.inr (.inr h3))
   clear hroot
   go_wp2
   go_meet
   case rel => exact ⟨rfl, rfl, rfl, by trivial⟩
  obtain rfl : rt = false := by rw [hroot]; exact decide_eq_false (by rintro (h | h | h); exact h1 h; exact h2 h; exact h3 h)
  clear hroot
  go_wp2
  go_meet
  case rel => exact ⟨rfl, rfl, by simp [h1, h2], by trivial⟩
 case rest =>
  obtain ⟨rfl, rfl, rfl, rfl⟩ := hcut
  clear c3
  have hLA := HL.out.below (hb0 ▸ HBA.out)
  obtain ⟨ib, hib, hzb, hsb, hbb⟩ := info_parts info_bytes
  cases rt
  case true =>
   go_wp2_with fail
   refine (joined_ok L _ _ hLA (by have := HN.out; omega)).mono ?_; rintro e w2 ⟨u, rfl, ho, hb⟩
   have hO := ownB_of_own (bytes_flat HBY.out) ho
   have hB := HBA.out.trans (hb.mono (by omega))
   have HO := hid (listO_one (hO.le (show b0 ≤ wA.heap.size by omega)) (by have := hb.size; omega))
   have HB2 := hid (hB.alloc (by have := hb.size; omega) (.cells #[u] 24))
   have hu := hO.one
   obtain ⟨a6, n6, k6, rfl⟩ := own_slice ho
   clear ho hb hO hB hu
   go_wp2_with ((with_reducible show wpList _ _ _ (Oper.mk _ (Op.buildSlice _ _ _) _ _ _ _ :: _) _ _); refine wpList_build1 rfl _ rfl _ _ _ rfl ?_)
   go_ret2
   exact ⟨_, rfl, by rw [hb0, HUP.out, if_pos trivial]; exact HO.out, by rw [hb0]; exact HB2.out⟩
  case false =>
   have hnr : ¬ (f = 0 ∨ (row : Int) = p - 1 ∨ (L.length : Int) ≤ f) := of_decide_eq_false hroot.symm
   have hf2 : 2 ≤ f ∧ f ≤ 255 ∧ f < L.length := by omega
   have HUP2 := hid (show U = flats fn L (cdiv L.length fn) from HUP.out.trans (if_neg (by simp)))
   clear hroot hf1 hnr HUP
   subst hfn
   go_wp2_with fail
   go_loopw [2, 8] (fun x s wr => ∃ j : Nat, j ≤ cdiv L.length fn ∧ ListH w x (L.drop (j * fn)) ∧ ListO (b0 + 1) wr s (flats fn L j) ∧ Below b0 w wr ∧ wr.heap[b0]? = some (.cells #[.int .i64 k, .int .i64 d, .int .i64 (fn : Int), .int .i64 p, .int .u32 l, .int .i64 i, .slice ka kl kc, .slice sa sl sc, .slice pa pl pc] 26 (0, 0))) (fun x _ _ => lenV x)
   case atStart => exact ⟨0, Nat.zero_le _, by rw [Nat.zero_mul]; exact HL.out, ListO.nil _ _, HBA.out, HRA.out⟩
   case round =>
    obtain ⟨j, hj, hx, ho, hb, hrT⟩ := hrel
    have c2 : wr.cell? ⟨b0, 2, none⟩ = some (.int .i64 (fn : Int)) := cell_of_heap hrT 2
    have hbs : b0 < wr.heap.size := (Array.getElem?_eq_some_iff.1 hrT).1
    have HRT := hid hrT
    clear hrT
    have hd1 : 1 ≤ fn := by omega
    obtain ⟨a1, cp, rfl, hx1, hx2, -⟩ := id hx
    have HX := hid hx
    have HO := hid ho
    have HB := hid hb
    have hdl : (L.drop (j * fn)).length = L.length - j * fn := by simp
    obtain ⟨m, hm⟩ : ∃ m, (L.drop (j * fn)).length = m := ⟨_, rfl⟩
    rw [hm] at hx1 hdl ⊢
    have HDL := hid hdl
    clear hx ho hb hdl
    by_cases hlt : 0 < m
    case pos =>
     have hj2 : j < cdiv L.length fn := (lt_cdiv hd1).2 (by have := HDL.out; omega)
     obtain ⟨k, hk⟩ : ∃ k, min fn m = k := ⟨_, rfl⟩
     have HK := hid hk
     have hkm : 1 ≤ k ∧ k ≤ m ∧ k ≤ cp := by omega
     have hmi : min (fn : Int) (m : Int) = (k : Int) := by omega
     have hm2 : 0 < (m : Int) := by omega
     clear hk
     obtain ⟨g, off, rfl, hgs, -⟩ : ∃ g off, a1 = some ⟨g, off, none⟩ ∧ g < w.heap.size ∧ True := by
      obtain ⟨a', c', e, -, -, h3⟩ := HX.out
      rcases h3 with h3 | ⟨g, off, rfl, h4, -⟩
      ·rw [h3] at hm; simp at hm; omega
      ·simp only [Value.slice.injEq] at e; exact ⟨g, off, e.1, h4, trivial⟩
     have hpk : piece fn L j = (L.drop (j * fn)).take k := by
      unfold piece
      by_cases h : fn ≤ m
      ·rw [show k = fn by have := HK.out; omega]
      ·rw [show k = m by have := HK.out; omega, List.take_of_length_le (by omega), List.take_of_length_le (by omega)]
     have HPK := hid hpk
     have HTK := hid ((ListH.take HX.out (k := k) (by omega)).below (hb0 ▸ HB.out))
     have hfl := Nat.le_trans (flatten_le_of_sub (piece_sub fn L j)) HN.out
     rw [hpk] at hfl
     have HFL := hid hfl
     have hkc : (k : Int) ≤ (cp : Int) ∧ (k : Int) ≤ (m : Int) ∧ 0 ≤ (k : Int) := by omega
     obtain ⟨hkc1, hkc2, hkc3⟩ := hkc
     obtain ⟨vs, hvo, hvx⟩ := HO.out
     have hvl : vs.length = j := by have := hvo.1; rw [flats_length] at this; omega
     rw [flats_length] at hvo hvx
     have HVX := hid hvx
     obtain ⟨a8, n8, k8, rfl⟩ := own_slice hvo
     have HVO := hid hvo
     have hj3 : j + 1 ≤ 16777217 := by have := cdiv_le (n := L.length) hd1; omega
     clear hpk hfl hvo hvx
     have HM := hid hm
     have hb2s : b0 + 1 ≤ wr.heap.size := by omega
     have HBY2 := hid (show ∀ z ∈ (L.drop (j * fn)).take k, ∀ a ∈ z, 0 ≤ a ∧ a ≤ 255 from fun z hz => HBY.out z (List.mem_of_mem_drop (List.mem_of_mem_take hz)))
     have hlk : ((L.drop (j * fn)).take k).length = k := by rw [List.length_take]; omega
     clear hm
     by_cases hck : k = cp
     case pos =>
      subst hck
      go_wp2_with fail
      refine (joined_ok ((L.drop (j * fn)).take k) _ _ HTK.out (by have := HFL.out; omega)).mono ?_; rintro e w2 ⟨u, rfl, ho2, hb2⟩
      have hO := ownB_of_own (bytes_flat HBY2.out) ho2
      have HO2 := hid (hO.le hb2s)
      have hs2 := hb2.size
      have HK2 := hid (KB.of_below hb2 hb2s)
      have HV2 := hid (show w2.ownsRow (b0 + 1) 24 1 (.slice a8 n8 k8) j vs from ownsRow_same' HVO.out (fun g _ g2 => hb2.block g g2))
      obtain ⟨a6, n6, k6, rfl⟩ := own_slice ho2
      have HB2 := hid hb2
      clear ho2 hb2 hO
      go_wp2_with (first | ((with_reducible show wpList _ _ _ (Oper.mk _ (Op.buildSlice _ _ _) _ _ _ _ :: _) _ _); refine wpList_build1 rfl _ rfl _ _ _ rfl ?_) | (at_builtin; refine wpList_push rfl _ _ _ rfl (b0 + 1) 24 (by decide) ib (.slice none 0 0) 1 24 Try.underlying28 hib hzb hsb hbb rfl (by decide) (.slice a8 n8 k8) j vs [.slice a6 n6 k6] _ rfl HV2.out rfl rfl (by simp [Value.oneCell']) (by unfold maxLen; omega) (by omega) (by omega) ?_; intro v' w' hown' hkb' hsp'))
      have hmk : m = k := by omega
      have hd0 : (L.drop (j * fn)).drop k = L.drop ((j + 1) * fn) := by
       rw [List.drop_drop, Nat.add_mul, Nat.one_mul, List.drop_eq_nil_of_le (by have := HDL.out; omega), List.drop_eq_nil_of_le (by have := HDL.out; have := HK.out; omega)]
      refine ⟨⟨j + 1, by omega, ?_, ?_, HB.out.trans ((HB2.out.mono (by omega)).trans (hkb'.below.mono (by omega))), (hkb'.block b0 (by omega)).trans (rowStay HRT.out HB2.out)⟩, by simp [lenV]; omega⟩
      ·rw [← hd0]; exact ListH.drop HX.out (by have := HM.out; omega) (by have := HM.out; omega) (by omega) g off rfl (.inr ⟨rfl, Nat.le_refl _⟩)
      ·rw [flats_succ]
       refine ListO.snoc (w := w2) (vs := vs) (x := .slice a6 n6 k6) (fun i hi => ?_) (by rw [flats_length]; exact hvl) (by rw [HPK.out]; exact HO2.out) (by rw [flats_length]; exact hown') hkb'
       rw [flats_length] at hi
       exact (HVX.out i hi).kb HK2.out
     go_wp2_with fail
     refine (joined_ok ((L.drop (j * fn)).take k) _ _ HTK.out (by have := HFL.out; omega)).mono ?_; rintro e w2 ⟨u, rfl, ho2, hb2⟩
     have hO := ownB_of_own (bytes_flat HBY2.out) ho2
     have HO2 := hid (hO.le hb2s)
     have hs2 := hb2.size
     have HK2 := hid (KB.of_below hb2 hb2s)
     have HV2 := hid (show w2.ownsRow (b0 + 1) 24 1 (.slice a8 n8 k8) j vs from ownsRow_same' HVO.out (fun g _ g2 => hb2.block g g2))
     obtain ⟨a6, n6, k6, rfl⟩ := own_slice ho2
     have HB2 := hid hb2
     clear ho2 hb2 hO
     go_wp2_with (first | ((with_reducible show wpList _ _ _ (Oper.mk _ (Op.buildSlice _ _ _) _ _ _ _ :: _) _ _); refine wpList_build1 rfl _ rfl _ _ _ rfl ?_) | (at_builtin; refine wpList_push rfl _ _ _ rfl (b0 + 1) 24 (by decide) ib (.slice none 0 0) 1 24 Try.underlying28 hib hzb hsb hbb rfl (by decide) (.slice a8 n8 k8) j vs [.slice a6 n6 k6] _ rfl HV2.out rfl rfl (by simp [Value.oneCell']) (by unfold maxLen; omega) (by omega) (by omega) ?_; intro v' w' hown' hkb' hsp'))
     have hd0 : (L.drop (j * fn)).drop k = L.drop ((j + 1) * fn) := by
      rw [List.drop_drop, Nat.add_mul, Nat.one_mul]
      by_cases h : fn ≤ m
      ·rw [show k = fn by have := HK.out; omega]
      ·rw [List.drop_eq_nil_of_le (by have := HDL.out; have := HK.out; omega), List.drop_eq_nil_of_le (by have := HDL.out; have := HK.out; omega)]
     refine ⟨⟨j + 1, by omega, ?_, ?_, HB.out.trans ((HB2.out.mono (by omega)).trans (hkb'.below.mono (by omega))), (hkb'.block b0 (by omega)).trans (rowStay HRT.out HB2.out)⟩, by simp [lenV]; omega⟩
     ·rw [← hd0]; exact ListH.drop HX.out (by have := HM.out; omega) (by have := HM.out; omega) (by omega) g off rfl (.inl rfl)
     ·rw [flats_succ]
      refine ListO.snoc (w := w2) (vs := vs) (x := .slice a6 n6 k6) (fun i hi => ?_) (by rw [flats_length]; exact hvl) (by rw [HPK.out]; exact HO2.out) (by rw [flats_length]; exact hown') hkb'
      rw [flats_length] at hi
      exact (HVX.out i hi).kb HK2.out
    have hm0 : m = 0 := by omega
    have hjc : cdiv L.length fn ≤ j := Nat.le_of_not_lt fun h => by
     have := (lt_cdiv hd1).1 h
     have := HDL.out
     omega
    obtain rfl : j = cdiv L.length fn := by omega
    subst hm0
    clear hm
    have HOr := hid (HO.out.le (show b0 ≤ b0 + 1 by omega))
    go_wp2
    go_ret2
    exact ⟨_, rfl, by rw [hb0, HUP2.out]; exact HOr.out, by rw [hb0]; exact HB.out⟩
theorem cut_ok (t : TreeV) (h : t.validE = 0) (hl : 0 ≤ t.l ∧ t.l ≤ 4294967295) (zs : List Int) (v : Value) (w : World) (hv : Hold w v zs) (hn : zs.length ≤ 16777216) :
  Calls Try.prog 28 #[t.val, v] w fun e w' => ∃ u, e = .returned u ∧ ListO w.heap.size w' u (cutZ t.ln zs) ∧ Below w.heap.size w w' := by
 obtain ⟨b0, hb0⟩ : ∃ b0, w.heap.size = b0 := ⟨_, rfl⟩
 have hvf := TreeV.valid_facts h
 have hl0 : t.l ≠ 0 := hvf.2.2.2.2.2.2.2.2.1
 have hln : (t.ln : Int) = t.l := by unfold TreeV.ln; omega
 have hd1 : 1 ≤ t.ln := by omega
 have hln2 : (t.ln : Int) ≤ 4294967295 := by omega
 generalize t.ln = ln at *
 obtain ⟨k, d, f, p, l, i, ka, kl, kc, sa, sl, sc, pa, pl, pc⟩ := t
 unfold TreeV.val
 simp only at *
 clear hvf h hl hl0
 subst hln
 obtain ⟨ib, hib, hzb, hsb, hbb⟩ := info_parts info_bytes
 obtain ⟨i0, hi, hz0, hz1, hz2⟩ := info_parts info_u8
 have HV := hid hv
 obtain ⟨a, cap, rfl, hc1, hc2⟩ := hv.slice
 clear hv
 have hbA : Below b0 w (w.alloc (.cells #[.int .i64 k, .int .i64 d, .int .i64 f, .int .i64 p, .int .u32 (ln : Int), .int .i64 i, .slice ka kl kc, .slice sa sl sc, .slice pa pl pc] 26)) := by rw [← hb0]; exact (Below.refl _ _).alloc (Nat.le_refl _) _
 have hrA := World.alloc_heap_new w (.cells #[.int .i64 k, .int .i64 d, .int .i64 f, .int .i64 p, .int .u32 (ln : Int), .int .i64 i, .slice ka kl kc, .slice sa sl sc, .slice pa pl pc] 26)
 rw [hb0] at hrA
 go_enter Try.func28, Try.ntmps28
 go_upto_region 1 with (fail)
 generalize w.alloc (.cells #[.int .i64 k, .int .i64 d, .int .i64 f, .int .i64 p, .int .u32 (ln : Int), .int .i64 i, .slice ka kl kc, .slice sa sl sc, .slice pa pl pc] 26) = wA at *
 have c4 : wA.cell? ⟨b0, 4, none⟩ = some (.int .u32 (ln : Int)) := cell_of_heap hrA 4
 have hbs : b0 < wA.heap.size := (Array.getElem?_eq_some_iff.1 hrA).1
 have HBA := hid hbA
 clear hrA hbA
 by_cases h0 : zs = []
 case pos =>
  subst h0
  have HR := hid (listO_one (B := b0) (w := wA) (x := .slice none 0 0) (z := []) ⟨fun _ h => by simp at h, .inl ⟨rfl, rfl⟩⟩ (by omega))
  have HB := hid (HBA.out.alloc (show b0 ≤ wA.heap.size by omega) (.cells #[.slice none 0 0] 24))
  go_wp2_with ((with_reducible show wpList _ _ _ (Oper.mk _ (Op.buildSlice _ _ _) _ _ _ _ :: _) _ _); refine wpList_build1 rfl _ rfl _ _ _ rfl ?_)
  go_ret
  exact ⟨_, rfl, by rw [hb0]; exact HR.out, by rw [hb0]; exact HB.out⟩
 have hlp : 0 < zs.length := List.length_pos_iff.2 h0
 have hcz : cutZ ln zs = pieces ln zs (cdiv zs.length ln) := if_neg h0
 have HCZ := hid hcz
 have hlp2 : ((zs.length : Int) == 0) = false := beq_eq_false_iff_ne.2 (by omega)
 clear h0 hcz
 go_wp2_with fail
 go_loopw [1, 5] (fun x s wr => ∃ j : Nat, j ≤ cdiv zs.length ln ∧ Hold w x (zs.drop (j * ln)) ∧ ListO b0 wr s (pieces ln zs j) ∧ Below b0 w wr) (fun x _ _ => lenV x)
 case atStart => exact ⟨0, Nat.zero_le _, by rw [Nat.zero_mul]; exact HV.out, ListO.nil _ _, HBA.out⟩
 case round =>
  obtain ⟨j, hj, hx, ho, hb⟩ := hrel
  obtain ⟨a1, cp, rfl, hx1, hx2⟩ := id hx.slice
  have HX := hid hx
  have HO := hid ho
  have HB := hid hb
  have hdl : (zs.drop (j * ln)).length = zs.length - j * ln := by simp
  obtain ⟨m, hm⟩ : ∃ m, (zs.drop (j * ln)).length = m := ⟨_, rfl⟩
  rw [hm] at hx1 hdl ⊢
  have HDL := hid hdl
  have hbb0 : b0 ≤ wr.heap.size := by have := hb.size; omega
  clear hx ho hb hdl
  by_cases hlt : 0 < m
  case pos =>
   have hj2 : j < cdiv zs.length ln := (lt_cdiv hd1).2 (by have := HDL.out; omega)
   obtain ⟨k, hk⟩ : ∃ k, min ln m = k := ⟨_, rfl⟩
   have HK := hid hk
   have hmn : m ≤ 16777216 := by have := HDL.out; omega
   have hkm : 1 ≤ k ∧ k ≤ m ∧ k ≤ cp := by omega
   have hmi : min (ln : Int) (m : Int) = (k : Int) := by omega
   have hm2 : 0 < (m : Int) := by omega
   obtain ⟨g, off, rfl⟩ := hold_some HX.out (by rintro e; rw [e] at hm; simp at hm; omega)
   have hpk : piece ln zs j = (zs.drop (j * ln)).take k := by
    unfold piece
    by_cases h : ln ≤ m
    ·rw [show k = ln by have := HK.out; omega]
    ·rw [show k = m by have := HK.out; omega, List.take_of_length_le (by omega), List.take_of_length_le (by omega)]
   have HPK := hid hpk
   have hlk : ((zs.drop (j * ln)).take k).length = k := by rw [List.length_take]; omega
   have HLK := hid hlk
   have HSR := hid ((HX.out.below (hb0 ▸ HB.out)).src)
   have HZ := hid (show ∀ z ∈ (zs.drop (j * ln)).take k, 0 ≤ z ∧ z ≤ 255 from fun z hz => HX.out.1 z (List.mem_of_mem_take hz))
   obtain ⟨vs, hvo, hvx⟩ := HO.out
   have hvl : vs.length = j := by have := hvo.1; rw [pieces_length] at this; omega
   rw [pieces_length] at hvo hvx
   have HVX := hid hvx
   obtain ⟨a8, n8, k8, rfl⟩ := own_slice hvo
   have HVO := hid hvo
   have hj3 : j + 1 ≤ 16777217 := by have := cdiv_le (n := zs.length) hd1; omega
   have hkc : (k : Int) ≤ (cp : Int) ∧ (k : Int) ≤ (m : Int) ∧ 0 ≤ (k : Int) := by omega
   obtain ⟨hkc1, hkc2, hkc3⟩ := hkc
   have HM := hid hm
   have hmk := fun W : World => run_make (P := Try.prog) W 24 5 i0 (.int .u8 0) Try.underlying24 hi hz0 .i64 .i64 k k (by omega) (by omega) (by rw [hz2]; omega) (by omega)
   simp only [hz1] at hmk
   have hmc : madeCells #[.int .u8 0] k = (List.replicate k (.int .u8 0)).toArray := by
    apply Array.toList_inj.1
    rw [toList_madeCells_one]
   have HMC := hid hmc
   clear hk hpk hlk hvo hvx hm hmc
   by_cases hck : k = cp
   case pos =>
    subst hck
    go_upto_region 8 with (fail)
    obtain ⟨gl, hgl⟩ : ∃ gl, wr.heap.size = gl := ⟨_, rfl⟩
    have hgr : (wr.alloc (.cells (madeCells #[.int .u8 0] k) 5)).heap[gl]? = some (.cells (List.replicate k (.int .u8 0)).toArray 5 (0, 0)) := by rw [← HMC.out, ← hgl]; exact World.alloc_heap_new _ _
    have hbl : Below gl wr (wr.alloc (.cells (madeCells #[.int .u8 0] k) 5)) := by rw [← hgl]; exact (Below.refl _ _).alloc (Nat.le_refl _) _
    rw [hgl]
    generalize wr.alloc (.cells (madeCells #[.int .u8 0] k) 5) = w3 at *
    have hsr := HSR.out.below (hgl ▸ hbl)
    have hcs : ∀ (i : Nat) (v : Value), (((zs.drop (j * ln)).take k).map encB)[i]? = some v → w3.cell? ((⟨g, off, none⟩ : Addr).add i) = some v := fun i v hiv => by
     rcases hsr.2.2 with ⟨e, -⟩ | ⟨ad, c, e, h2⟩
     ·cases e
     ·simp only [Value.slice.injEq, Option.some.injEq] at e
      obtain ⟨rfl, -, -⟩ := e
      refine h2 i v ?_
      rw [List.getElem?_map] at hiv ⊢
      by_cases hik : i < k
      ·rw [List.getElem?_take, if_pos hik] at hiv; exact hiv
      ·rw [List.getElem?_take, if_neg hik] at hiv; cases hiv
    clear hmk
    go_upto_region 9 with ((with_reducible show wpList _ _ _ (Oper.mk (some 27) _ _ _ _ _ :: _) _ _); refine wpList_copy_splice rfl _ _ _ _ rfl 5 Try.underlying24 (by rw [hi]; simp [hz1]) _ _ _ _ _ _ rfl rfl gl 0 (List.replicate k (.int .u8 0)) 5 hgr (((zs.drop (j * ln)).take k).map encB) (by rw [List.length_map, HLK.out]; exact (Nat.min_eq_right (by omega)).symm) (fun _ => ⟨rfl, ⟨g, off, none⟩, rfl, hcs⟩) (by rw [List.length_map, HLK.out, List.length_replicate]; omega) (fun u hu => by obtain ⟨z, -, rfl⟩ := List.mem_map.1 hu; rfl) gl wr hbl (Nat.le_refl _) ?_; intro w4 hg4 hb4)
    have hsp : splice (List.replicate k (.int .u8 0)) 0 (((zs.drop (j * ln)).take k).map encB) = ((zs.drop (j * ln)).take k).map encB := by
     have := HLK.out
     simp only [splice, List.take_zero, List.nil_append, List.length_map, this, Nat.zero_add, List.drop_replicate, Nat.sub_self, List.replicate_zero, List.append_nil]
    have HO4 := hid (show OwnB b0 w4 (.slice (some ⟨gl, 0, none⟩) k k) ((zs.drop (j * ln)).take k) from ownB_of_own HZ.out ⟨by rw [List.length_map, HLK.out, Nat.mul_one], .inr ⟨gl, k, _, rfl, by omega, hg4.out, Nat.le_refl _, by unfold maxLen; omega, by rw [hsp, List.size_toArray, List.length_map, HLK.out, Nat.mul_one], by rw [hsp, List.toList_toArray, List.take_of_length_le (by rw [List.length_map, HLK.out, Nat.mul_one]; omega)]⟩⟩)
    have hb4' : Below wr.heap.size wr w4 := hgl ▸ hb4
    have HK4 := hid (KB.of_below hb4' hbb0)
    have HB4 := hid hb4'
    have HV4 := hid (show w4.ownsRow b0 24 1 (.slice a8 n8 k8) j vs from ownsRow_same' HVO.out (fun g _ g2 => hb4'.block g g2))
    have hs4 := hb4'.size
    clear hsp hsr hcs hg4 hb4 hb4' hgr hbl
    go_wp2_with (first | ((with_reducible show wpList _ _ _ (Oper.mk _ (Op.buildSlice _ _ _) _ _ _ _ :: _) _ _); refine wpList_build1 rfl _ rfl _ _ _ rfl ?_) | (at_builtin; refine wpList_push rfl _ _ _ rfl b0 24 (by decide) ib (.slice none 0 0) 1 24 Try.underlying28 hib hzb hsb hbb rfl (by decide) (.slice a8 n8 k8) j vs [.slice (some ⟨gl, 0, none⟩) k k] _ rfl HV4.out rfl rfl (by simp [Value.oneCell']) (by unfold maxLen; omega) (by omega) (by omega) ?_; intro v' w' hown' hkb' hsp'))
    have hd0 : (zs.drop (j * ln)).drop k = zs.drop ((j + 1) * ln) := by
     rw [List.drop_drop, Nat.add_mul, Nat.one_mul]
     by_cases h : ln ≤ m
     ·rw [show k = ln by have := HK.out; omega]
     ·rw [List.drop_eq_nil_of_le (by have := HDL.out; have := HK.out; omega), List.drop_eq_nil_of_le (by have := HDL.out; have := HK.out; omega)]
    refine ⟨⟨j + 1, by omega, ?_, ?_, HB.out.trans ((HB4.out.mono hbb0).trans hkb'.below)⟩, by simp [lenV]; omega⟩
    ·rw [← hd0]; exact hold_drop HX.out (by have := HM.out; omega) (by have := HM.out; omega) (by omega) g off rfl (.inr ⟨rfl, rfl⟩)
    ·rw [pieces_succ]
     refine ListO.snoc (w := w4) (vs := vs) (x := .slice (some ⟨gl, 0, none⟩) k k) (fun i hi => ?_) (by rw [pieces_length]; exact hvl) (by rw [HPK.out]; exact HO4.out) (by rw [pieces_length]; exact hown') hkb'
     rw [pieces_length] at hi
     exact (HVX.out i hi).kb HK4.out
   go_upto_region 8 with (fail)
   obtain ⟨gl, hgl⟩ : ∃ gl, wr.heap.size = gl := ⟨_, rfl⟩
   have hgr : (wr.alloc (.cells (madeCells #[.int .u8 0] k) 5)).heap[gl]? = some (.cells (List.replicate k (.int .u8 0)).toArray 5 (0, 0)) := by rw [← HMC.out, ← hgl]; exact World.alloc_heap_new _ _
   have hbl : Below gl wr (wr.alloc (.cells (madeCells #[.int .u8 0] k) 5)) := by rw [← hgl]; exact (Below.refl _ _).alloc (Nat.le_refl _) _
   rw [hgl]
   generalize wr.alloc (.cells (madeCells #[.int .u8 0] k) 5) = w3 at *
   have hsr := HSR.out.below (hgl ▸ hbl)
   have hcs : ∀ (i : Nat) (v : Value), (((zs.drop (j * ln)).take k).map encB)[i]? = some v → w3.cell? ((⟨g, off, none⟩ : Addr).add i) = some v := fun i v hiv => by
    rcases hsr.2.2 with ⟨e, -⟩ | ⟨ad, c, e, h2⟩
    ·cases e
    ·simp only [Value.slice.injEq, Option.some.injEq] at e
     obtain ⟨rfl, -, -⟩ := e
     refine h2 i v ?_
     rw [List.getElem?_map] at hiv ⊢
     by_cases hik : i < k
     ·rw [List.getElem?_take, if_pos hik] at hiv; exact hiv
     ·rw [List.getElem?_take, if_neg hik] at hiv; cases hiv
   clear hmk
   go_upto_region 9 with ((with_reducible show wpList _ _ _ (Oper.mk (some 27) _ _ _ _ _ :: _) _ _); refine wpList_copy_splice rfl _ _ _ _ rfl 5 Try.underlying24 (by rw [hi]; simp [hz1]) _ _ _ _ _ _ rfl rfl gl 0 (List.replicate k (.int .u8 0)) 5 hgr (((zs.drop (j * ln)).take k).map encB) (by rw [List.length_map, HLK.out]; exact (Nat.min_eq_right (by omega)).symm) (fun _ => ⟨rfl, ⟨g, off, none⟩, rfl, hcs⟩) (by rw [List.length_map, HLK.out, List.length_replicate]; omega) (fun u hu => by obtain ⟨z, -, rfl⟩ := List.mem_map.1 hu; rfl) gl wr hbl (Nat.le_refl _) ?_; intro w4 hg4 hb4)
   have hsp : splice (List.replicate k (.int .u8 0)) 0 (((zs.drop (j * ln)).take k).map encB) = ((zs.drop (j * ln)).take k).map encB := by
    have := HLK.out
    simp only [splice, List.take_zero, List.nil_append, List.length_map, this, Nat.zero_add, List.drop_replicate, Nat.sub_self, List.replicate_zero, List.append_nil]
   have HO4 := hid (show OwnB b0 w4 (.slice (some ⟨gl, 0, none⟩) k k) ((zs.drop (j * ln)).take k) from ownB_of_own HZ.out ⟨by rw [List.length_map, HLK.out, Nat.mul_one], .inr ⟨gl, k, _, rfl, by omega, hg4.out, Nat.le_refl _, by unfold maxLen; omega, by rw [hsp, List.size_toArray, List.length_map, HLK.out, Nat.mul_one], by rw [hsp, List.toList_toArray, List.take_of_length_le (by rw [List.length_map, HLK.out, Nat.mul_one]; omega)]⟩⟩)
   have hb4' : Below wr.heap.size wr w4 := hgl ▸ hb4
   have HK4 := hid (KB.of_below hb4' hbb0)
   have HB4 := hid hb4'
   have HV4 := hid (show w4.ownsRow b0 24 1 (.slice a8 n8 k8) j vs from ownsRow_same' HVO.out (fun g _ g2 => hb4'.block g g2))
   have hs4 := hb4'.size
   clear hsp hsr hcs hg4 hb4 hb4' hgr hbl
   go_wp2_with (first | ((with_reducible show wpList _ _ _ (Oper.mk _ (Op.buildSlice _ _ _) _ _ _ _ :: _) _ _); refine wpList_build1 rfl _ rfl _ _ _ rfl ?_) | (at_builtin; refine wpList_push rfl _ _ _ rfl b0 24 (by decide) ib (.slice none 0 0) 1 24 Try.underlying28 hib hzb hsb hbb rfl (by decide) (.slice a8 n8 k8) j vs [.slice (some ⟨gl, 0, none⟩) k k] _ rfl HV4.out rfl rfl (by simp [Value.oneCell']) (by unfold maxLen; omega) (by omega) (by omega) ?_; intro v' w' hown' hkb' hsp'))
   have hd0 : (zs.drop (j * ln)).drop k = zs.drop ((j + 1) * ln) := by
    rw [List.drop_drop, Nat.add_mul, Nat.one_mul]
    by_cases h : ln ≤ m
    ·rw [show k = ln by have := HK.out; omega]
    ·rw [List.drop_eq_nil_of_le (by have := HDL.out; have := HK.out; omega), List.drop_eq_nil_of_le (by have := HDL.out; have := HK.out; omega)]
   refine ⟨⟨j + 1, by omega, ?_, ?_, HB.out.trans ((HB4.out.mono hbb0).trans hkb'.below)⟩, by simp [lenV]; omega⟩
   ·rw [← hd0]; exact hold_drop HX.out (by have := HM.out; omega) (by have := HM.out; omega) (by omega) g off rfl (.inl rfl)
   ·rw [pieces_succ]
    refine ListO.snoc (w := w4) (vs := vs) (x := .slice (some ⟨gl, 0, none⟩) k k) (fun i hi => ?_) (by rw [pieces_length]; exact hvl) (by rw [HPK.out]; exact HO4.out) (by rw [pieces_length]; exact hown') hkb'
    rw [pieces_length] at hi
    exact (HVX.out i hi).kb HK4.out
  have hm0 : m = 0 := by omega
  have hjc : cdiv zs.length ln ≤ j := Nat.le_of_not_lt fun h => by
   have := (lt_cdiv hd1).1 h
   have := HDL.out
   omega
  obtain rfl : j = cdiv zs.length ln := by omega
  subst hm0
  clear hm
  go_wp2
  go_ret
  exact ⟨_, rfl, by rw [hb0, HCZ.out]; exact HO.out, by rw [hb0]; exact HB.out⟩
end Go.Proofs.Ytchepcilkcdemaa
