/- Lists of bytes in memory; all of them, one behind the other. No condition. -/
import Derived.Test.YtchepcilkcdemaaGreatR30
import Derived.Test.YtchepcilkcdemaaGreatR25
import Derived.Great.BuildSlice
import Derived.Test.YtchepcilkcdemaaGreatR35
import Derived.Test.YtchepcilkcdemaaGreatR28
import Derived.Test.YtchepcilkcdemaaGreatR27
import Derived.Test.YtchepcilkcdemaaGreatR05
import Derived.Test.YtchepcilkcdemaaGreatR17
import Derived.Test.YtchepcilkcdemaaGreatR21
set_option linter.all false
set_option maxRecDepth 100000
set_option maxHeartbeats 8000000
namespace Go.Proofs.YtchepcilkcdemaaGreat
open Go.ChangeShapes Go.WideShapes Go.ChangeAt Go.RowKit Go.Joins Go.Shelf Go.Maps
open Go.Lib (hid)
attribute [local go_sem] Oper.semAt_some
/-- The world grows; what lies below B, and all bytes, stay. -/
structure KB (B : Nat) (w w' : World) : Prop where
 os : w'.os = w.os
 tape : w'.tape = w.tape
 output : w'.output = w.output
 size : w.heap.size ≤ w'.heap.size
 block : ∀ k : Nat, k < B → w'.heap[k]? = w.heap[k]?
 bytes : ∀ (k : Nat) (c : Array Value), w.heap[k]? = some (.cells c 5 (0, 0)) → w'.heap[k]? = some (.cells c 5 (0, 0))
namespace KB
variable {B : Nat} {w w' w'' : World}
theorem refl (B : Nat) (w : World) : KB B w w := ⟨rfl, rfl, rfl, Nat.le_refl _, fun _ _ => rfl, fun _ _ h => h⟩
theorem trans (h : KB B w w') (k : KB B w' w'') : KB B w w'' := ⟨k.os.trans h.os, k.tape.trans h.tape, k.output.trans h.output, Nat.le_trans h.size k.size, fun j hj => (k.block j hj).trans (h.block j hj), fun j c hc => k.bytes j c (h.bytes j c hc)⟩
theorem of_below (h : Below w.heap.size w w') (hB : B ≤ w.heap.size) : KB B w w' := ⟨h.os, h.tape, h.output, h.size, fun k hk => h.block k (by omega), fun k c hc => (h.block k (Array.getElem?_eq_some_iff.1 hc).1).trans hc⟩
theorem of_but {g : Nat} {c : Array Value} {T : TypeId} {fr : Nat × Nat} (h : But g w w') (hB : B ≤ w.heap.size) (hg : B ≤ g) (hc : w.heap[g]? = some (.cells c T fr)) (hT : T ≠ 5) : KB B w w' :=
 ⟨h.os, h.tape, h.output, h.size, fun k hk => h.block k (by omega) (by omega), fun k c' hc' => by
  rw [h.block k (Array.getElem?_eq_some_iff.1 hc').1 ?_]; exact hc'
  rintro rfl
  rw [hc] at hc'
  simp only [Option.some.injEq, Obj.cells.injEq] at hc'
  exact hT hc'.2.1⟩
theorem below (h : KB B w w') : Below B w w' := ⟨h.os, h.tape, h.output, h.size, h.block⟩
end KB
theorem Fresh.kb {B b : Nat} {w w' : World} {x : Value} {z : List Int} (h : Fresh B w x z) (k : KB b w w') : Fresh B w' x z := by
 rcases h with h | ⟨g, cap, cur, e, h1, h2, h3⟩
 ·exact .inl h
 ·exact .inr ⟨g, cap, cur, e, h1, k.bytes _ _ h2, h3⟩
theorem fresh_of_own {B n : Nat} {w : World} {x : Value} {z : List Int} (h : w.ownsRow B 5 1 x n (z.map encB)) : Fresh B w x z := by
 have hl : z.length = n := by have := h.1; simpa using this
 rcases h.2 with ⟨rfl, h0⟩ | ⟨g, cap, cur, rfl, h1, h2, h3, h4, h5, h6⟩
 ·exact .inl ⟨List.eq_nil_of_length_eq_zero (by omega), rfl⟩
 ·exact .inr ⟨g, cap, cur, by rw [hl], h1, h2, by omega, by omega, h4, by rw [hl]; simpa using h6⟩
theorem own_kb {B b n : Nat} {w w' : World} {x : Value} {xs : List Value} (h : w.ownsRow B 5 1 x n xs) (k : KB b w w') : w'.ownsRow B 5 1 x n xs := by
 refine ⟨h.1, ?_⟩
 rcases h.2 with h2 | ⟨g, cap, cur, e, h1, h2, h3⟩
 ·exact .inl h2
 ·exact .inr ⟨g, cap, cur, e, h1, k.bytes _ _ h2, h3⟩
/-- Bytes of one's own. -/
def OwnB (B : Nat) (w : World) (x : Value) (z : List Int) : Prop := (∀ a ∈ z, 0 ≤ a ∧ a ≤ 255) ∧ Fresh B w x z
theorem OwnB.kb {B b : Nat} {w w' : World} {x : Value} {z : List Int} (h : OwnB B w x z) (k : KB b w w') : OwnB B w' x z := ⟨h.1, h.2.kb k⟩
theorem OwnB.hold {B : Nat} {w : World} {x : Value} {z : List Int} (h : OwnB B w x z) : Hold w x z := h.2.hold h.1
theorem OwnB.le {B b : Nat} {w : World} {x : Value} {z : List Int} (h : OwnB B w x z) (hb : b ≤ B) : OwnB b w x z := ⟨h.1, h.2.le hb⟩
theorem OwnB.one {B : Nat} {w : World} {x : Value} {z : List Int} (h : OwnB B w x z) : x.oneCell' = true := by
 rcases h.2 with ⟨-, rfl⟩ | ⟨g, cap, cur, rfl, -⟩ <;> rfl
/-- The i-th of a list of bytes. -/
def nthL (L : List (List Int)) (i : Nat) : List Int := L.getD i []
/-- A list of bytes of one's own: a row of one's own. -/
def ListO (B : Nat) (w : World) (v : Value) (L : List (List Int)) : Prop :=
 ∃ vs, w.ownsRow B 24 1 v L.length vs ∧ ∀ i, i < L.length → OwnB B w (vs.getD i undef) (nthL L i)
/-- A slice of slices of bytes that can be read. -/
def ListH (w : World) (v : Value) (L : List (List Int)) : Prop :=
 ∃ a cap, v = .slice a L.length cap ∧ L.length ≤ cap ∧ (cap : Int) ≤ 9223372036854775807 ∧ (L = [] ∨ ∃ g off, a = some ⟨g, off, none⟩ ∧ g < w.heap.size ∧ ∀ i, i < L.length → ∃ x, w.cell? ⟨g, off + i, none⟩ = some x ∧ Hold w x (nthL L i))
theorem ListO.hold {B : Nat} {w : World} {v : Value} {L : List (List Int)} (h : ListO B w v L) : ListH w v L := by
 obtain ⟨vs, ho, hx⟩ := h
 have hl : vs.length = L.length := by have := ho.1; simpa using this
 rcases ho.2 with ⟨rfl, h0⟩ | ⟨g, cap, cur, rfl, h1, h2, h3, h4, h5, h6⟩
 ·exact ⟨none, 0, by rw [h0], by omega, by omega, .inl (List.eq_nil_of_length_eq_zero h0)⟩
 ·refine ⟨_, cap, rfl, h3, by unfold maxLen at h4; omega, .inr ⟨g, 0, rfl, (Array.getElem?_eq_some_iff.1 h2).1, fun i hi => ⟨vs.getD i undef, ?_, (hx i hi).hold⟩⟩⟩
  rw [cell_of_heap h2 (0 + i), Nat.zero_add]
  have e : cur.toList[i]? = vs[i]? := by rw [← h6, List.getElem?_take, if_pos (by omega)]
  rw [← Array.getElem?_toList, e, List.getD_eq_getElem?_getD, List.getElem?_eq_getElem (by omega)]; rfl
theorem ListH.below {w w' : World} {v : Value} {L : List (List Int)} (h : ListH w v L) (hb : Below w.heap.size w w') : ListH w' v L := by
 obtain ⟨a, cap, rfl, h1, h2, h3⟩ := h
 refine ⟨a, cap, rfl, h1, h2, ?_⟩
 rcases h3 with h3 | ⟨g, off, rfl, h4, h5⟩
 ·exact .inl h3
 ·refine .inr ⟨g, off, rfl, Nat.lt_of_lt_of_le h4 hb.size, fun i hi => ?_⟩
  obtain ⟨x, h6, h7⟩ := h5 i hi
  exact ⟨x, (hb.cell (p := ⟨g, off + i, none⟩) h4).trans h6, h7.below hb⟩
theorem nthL_mem {L : List (List Int)} {i : Nat} (hi : i < L.length) : nthL L i ∈ L := by
 unfold nthL; rw [List.getD_eq_getElem?_getD, List.getElem?_eq_getElem hi]; exact List.getElem_mem hi
theorem take_flat {L : List (List Int)} {k : Nat} (hk : k < L.length) : (L.take (k + 1)).flatten = (L.take k).flatten ++ nthL L k := by
 have e : L.take (k + 1) = L.take k ++ [nthL L k] := by
  unfold nthL
  rw [List.take_succ, List.getD_eq_getElem?_getD, List.getElem?_eq_getElem hk]; rfl
 rw [e, List.flatten_append]; simp
theorem flat_take_le (L : List (List Int)) (k : Nat) : (L.take k).flatten.length ≤ L.flatten.length := by
 conv => rhs; rw [← List.take_append_drop k L, List.flatten_append, List.length_append]
 omega
theorem joined_ok (L : List (List Int)) (v : Value) (w : World) (h : ListH w v L) (hn : L.flatten.length ≤ 70368744177664) :
  Calls Tryz.prog 55 #[v] w fun e w' => ∃ u, e = .returned u ∧ w'.ownsRow w.heap.size 5 1 u L.flatten.length (L.flatten.map encB) ∧ Below w.heap.size w w' := by
 obtain ⟨i0, hi, hz0, hz1, hz2⟩ := info_parts info_u8
 obtain ⟨b0, hb0⟩ : ∃ b0, w.heap.size = b0 := ⟨_, rfl⟩
 have HH := hid h
 obtain ⟨a, cap, rfl, hc1, hc2, -⟩ := h
 have hn2 : (L.length : Int) ≤ 9223372036854775807 := by omega
 have HN := hid hn
 clear hn
 go_enter Tryz.func55, Tryz.ntmps55
 go_wp2_with fail
 go_loopw [3, 8] (fun s i wr => ∃ k : Nat, i = .int .i64 (k : Nat) ∧ k ≤ L.length ∧ wr.ownsRow b0 5 1 s (L.take k).flatten.length ((L.take k).flatten.map encB) ∧ Below b0 w wr) (fun _ i _ => L.length - (intOf i).toNat)
 case atStart => exact ⟨0, rfl, Nat.zero_le _, World.ownsRow_nil _ _ _ _, Below.refl _ _⟩
 case round =>
  obtain ⟨k, rfl, hk, ho, hb⟩ := hrel
  by_cases hlt : k < L.length
  case pos =>
   obtain ⟨a', cap', e, -, -, h3⟩ := HH.out
   obtain ⟨g, off, rfl, h4, h5⟩ := h3.resolve_left (fun e => by rw [e] at hlt; simp at hlt)
   simp only [Value.slice.injEq] at e
   obtain ⟨rfl, -, -⟩ := e
   obtain ⟨x, hx, hxh⟩ := h5 k hlt
   have c0 : wr.cell? ⟨g, off + k, none⟩ = some x := (hb.cell (p := ⟨g, off + k, none⟩) (show g < b0 by omega)).trans hx
   have hg0 : g < wr.heap.size := by have := hb.size; omega
   have HX := hid (hxh.below (hb0 ▸ hb)).src
   have HO := hid ho
   have HB := hid hb
   have hfl := flat_take_le L (k + 1)
   rw [take_flat hlt, List.length_append] at hfl
   have HF := hid hfl
   have hlt2 : (k : Int) < L.length := by omega
   clear hx hxh h5 h4 h3 ho hb hfl
   go_wp2_with (at_builtin; refine wpList_append_now rfl _ _ _ rfl w b0 hb0.symm HB.out 5 i0 (.int .u8 0) 1 Tryz.underlying24 hi hz0 hz1 hz2 rfl _ _ _ rfl HO.out _ _ _ rfl HX.out (by have := HF.out; have := HN.out; unfold maxLen; omega) (by have := HF.out; have := HN.out; omega) ?_; intro v' w' hown' hb')
   refine ⟨⟨k + 1, rfl, by omega, ?_, hb'⟩, by simp [intOf]; omega⟩
   rw [take_flat hlt, List.length_append, List.map_append]; exact hown'
  obtain rfl : k = L.length := by omega
  rw [List.take_length] at ho
  have HO := hid ho
  have HB := hid hb
  clear ho hb
  go_wp2
  go_ret
  exact ⟨_, rfl, hb0 ▸ HO.out, hb0 ▸ HB.out⟩
/-- One element more behind a row of one's own: nothing else of it, and no bytes, turn. -/
theorem wpList_push {P : Program} {ops : Array Oper} {rest : List Oper} {o : Oper} {a : Act} {Q : Exit → Act → World → Prop} {W : World} (hgd : o.guard = none) (s x : Operand) (t : TypeId)
  (ho : o.op = .call { callee := .builtin .append, args := #[s, x], argTypes := #[t, t] }) (B : Nat) (e : TypeId) (he : e ≠ 5) (i : TypeInfo) (z : Value) (size bytes : Nat) (ht : P.underlying t = some (.slice e)) (hi : P.info? e = some i) (hz : i.zero = some z)
  (hsize : i.size = size) (hby : i.bytes = bytes) (hzs : z.cells.size = size) (hsz : 0 < size) (v : Value) (n : Nat) (xs us : List Value) (T : TypeId) (hs : a.eval s = v) (hown : W.ownsRow B e size v n xs)
  (hx : a.eval x = .slice (some ⟨W.heap.size, 0, none⟩) 1 1) (hl : us.length = size) (h1 : ∀ u ∈ us, u.oneCell' = true) (h63 : n + 1 ≤ maxLen) (hbytes : (n + 1) * bytes ≤ 140737488355328) (hB : B ≤ W.heap.size)
  (h : ∀ v' w', w'.ownsRow B e size v' (n + 1) (xs ++ us) → KB B W w' → Spare (fun k => v.ownBlock ≠ some k) W w' → wpList P ops Q rest (a.put o.dst v') w') : wpList P ops Q (o :: rest) a (W.alloc (.cells us.toArray T)) := by
 refine wpList_append_own _ hgd s x t ho B e i z size bytes ht hi hz hsize hby hzs hsz v n xs hs (hown.alloc _) ⟨W.heap.size, 0, none⟩ 1 1 us hx (by omega) (fun j u hj => ?_) h1 h63 hbytes (by simp; omega) fun v' w' h2 h3 _ => ?_
 ·rw [Go.WideShapes.add_plain, cell_of_heap (World.alloc_heap_new W _) (0 + j), Nat.zero_add]
  simpa using hj
 have hsp : Spare (fun k => v.ownBlock ≠ some k) W w' := (Spare.of_below _ ((Below.refl _ _).alloc (Nat.le_refl _) _)).trans (Spare.of_grown h3) (fun _ _ h => h)
 refine h v' w' h2 ⟨hsp.os, hsp.tape, hsp.output, hsp.size, fun k hk => hsp.block k (by omega) (fun e2 => ?_), fun k c hc => ?_⟩ hsp
 ·rcases hown.2 with ⟨rfl, -⟩ | ⟨g, cap, cur, rfl, h4, -⟩
  ·cases e2
  ·simp only [Value.ownBlock, Option.some.injEq] at e2; omega
 ·rw [hsp.block k (Array.getElem?_eq_some_iff.1 hc).1 (fun e2 => ?_)]
  ·exact hc
  ·rcases hown.2 with ⟨rfl, -⟩ | ⟨g, cap, cur, rfl, -, h5, -⟩
   ·cases e2
   ·simp only [Value.ownBlock, Option.some.injEq] at e2
    subst e2
    rw [h5] at hc
    simp only [Option.some.injEq, Obj.cells.injEq] at hc
    exact he hc.2.1
theorem ListO.nil (B : Nat) (w : World) : ListO B w (.slice none 0 0) [] := ⟨[], World.ownsRow_nil _ _ _ _, fun i hi => by simp at hi⟩
theorem ListO.kb {B b : Nat} {w w' : World} {v : Value} {L : List (List Int)} (h : ListO B w v L) (k : KB b w w') (hs : ∀ g, v.ownBlock = some g → w'.heap[g]? = w.heap[g]?) : ListO B w' v L := by
 obtain ⟨vs, ho, hx⟩ := h
 refine ⟨vs, ⟨ho.1, ?_⟩, fun i hi => (hx i hi).kb k⟩
 rcases ho.2 with h2 | ⟨g, cap, cur, rfl, h1, h2, h3⟩
 ·exact .inl h2
 ·exact .inr ⟨g, cap, cur, rfl, h1, (hs g rfl).trans h2, h3⟩
theorem ListO.below {B : Nat} {w w' : World} {v : Value} {L : List (List Int)} (h : ListO B w v L) (k : Below w.heap.size w w') : ListO B w' v L := by
 refine h.kb (KB.of_below k (Nat.zero_le _)) fun g hg => ?_
 obtain ⟨vs, ho, -⟩ := h
 rcases ho.2 with ⟨rfl, -⟩ | ⟨g', cap, cur, rfl, -, h2, -⟩
 ·cases hg
 ·simp only [Value.ownBlock, Option.some.injEq] at hg; subst hg
  exact k.block _ (Array.getElem?_eq_some_iff.1 h2).1
theorem ListO.le {B b : Nat} {w : World} {v : Value} {L : List (List Int)} (h : ListO B w v L) (hb : b ≤ B) : ListO b w v L := by
 obtain ⟨vs, ho, hx⟩ := h
 exact ⟨vs, ownsRow_le ho hb, fun i hi => (hx i hi).le hb⟩
/-- One list more. -/
theorem ListO.snoc {B : Nat} {w w' : World} {v' x : Value} {L : List (List Int)} {z : List Int} {vs : List Value} (hx : ∀ i, i < L.length → OwnB B w (vs.getD i undef) (nthL L i)) (hl : vs.length = L.length) (hz : OwnB B w x z)
  (ho : w'.ownsRow B 24 1 v' (L.length + 1) (vs ++ [x])) (hk : KB B w w') : ListO B w' v' (L ++ [z]) := by
 refine ⟨vs ++ [x], by simpa using ho, fun i hi => ?_⟩
 simp only [List.length_append, List.length_singleton] at hi
 by_cases h : i < L.length
 ·have e1 : (vs ++ [x]).getD i undef = vs.getD i undef := by simp [List.getD_eq_getElem?_getD, List.getElem?_append_left (show i < vs.length by omega)]
  have e2 : nthL (L ++ [z]) i = nthL L i := by simp [nthL, List.getD_eq_getElem?_getD, List.getElem?_append_left h]
  rw [e1, e2]; exact (hx i h).kb hk
 ·obtain rfl : i = L.length := by omega
  have e1 : (vs ++ [x]).getD L.length undef = x := by simp [List.getD_eq_getElem?_getD, ← hl]
  have e2 : nthL (L ++ [z]) L.length = z := by simp [nthL, List.getD_eq_getElem?_getD]
  rw [e1, e2]; exact hz.kb hk
theorem info_bytes : (Tryz.prog.info? 24).map (fun i => (i.zero, i.size, i.bytes)) = some (some (.slice none 0 0), 1, 24) := by kernel_rfl
theorem wpList_build1 {ops : Array Oper} {rest : List Oper} {o : Oper} {act : Act} {w : World} {Q : Exit → Act → World → Prop} (hg : o.guard = none) (x : Operand) (ho : o.op = .buildSlice 73 1 #[(0, x)]) (a : Option Addr) (n k : Nat) (hx : act.eval x = .slice a n k)
  (h : wpList Tryz.prog ops Q rest (act.put o.dst (.slice (some ⟨w.heap.size, 0, none⟩) 1 1)) (w.alloc (.cells #[.slice a n k] 24))) : wpList Tryz.prog ops Q (o :: rest) act w := by
 obtain ⟨ib, hib, hzb, hsb, -⟩ := info_parts info_bytes
 exact wpList_buildSlice hg 73 24 1 _ ho #[.slice a n k] ib _ Tryz.underlying73 hib hzb (by rw [hsb]; decide) (by rw [hsb]; decide) (by rw [hsb, show Array.range (1 * 1) = #[0] by decide]; simp [hx, Instr.fill, Value.cells]) h
end Go.Proofs.YtchepcilkcdemaaGreat
namespace Go.Proofs.YtchepcilkcdemaaGreat
open Go.ChangeShapes Go.WideShapes Go.ChangeAt Go.RowKit Go.Joins Go.Shelf Go.Maps
open Go.Lib (hid)
theorem blk_get {big : Bool} {v : Nat → Nat} {z1 z2 : List Int} (h1 : z1.length ≤ sB big) (h2 : z2.length ≤ sB big) {i : Nat} (hi : i < 2 * sB big) : nthz (blkP big v z1 z2) i = nthz (encF big (v 7 == 0) v 9) i := by
 have e := encF_length big (v 7 == 0) v 9 (by omega)
 have hm : 4 * sB big = mB big := by cases big <;> decide
 unfold blkP
 rw [setL_get (by rw [setL_length (by omega)]; omega), if_neg (by omega), setL_get (by omega), if_neg (by omega)]
theorem encF_step {big x0 : Bool} {v : Nat → Nat} (k : Nat) {i : Nat} (hk : k + 1 ≤ 9) (h : ¬ (atB big (k + 1) ≤ i ∧ i < atB big (k + 1) + szB big (k + 1))) : nthz (encF big x0 v (k + 1)) i = nthz (encF big x0 v k) i := by
 rw [encF_get big x0 v hk i, if_neg (fun h2 => h h2.2)]
theorem encF_hit {big x0 : Bool} {v : Nat → Nat} (k : Nat) {i : Nat} (hk : k + 1 ≤ 9) (h7 : k + 1 ≠ 7) (h : atB big (k + 1) = i) : nthz (encF big x0 v (k + 1)) i = byt (v (k + 1)) 0 := by
 have hs : 1 ≤ szB big (k + 1) := by
  have := szE_bounds big false (k + 1) (by omega) hk
  simpa [szE] using this.1
 rw [encF_get big x0 v hk i, if_pos ⟨fun h2 => h7 h2.1, by omega, by omega⟩, ← h, Nat.sub_self]
theorem byt_small {x : Nat} (h : x ≤ 255) : byt x 0 = (x : Int) := by
 have := byt_shr x 0
 simp at this
 omega
theorem okD_blk {big : Bool} {v : Nat → Nat} {z1 z2 : List Int} (hP : ParOk big v) (h1 : z1.length ≤ sB big) (h2 : z2.length ≤ sB big) : okD big false (blkP big v z1 z2) ∧ nthz (blkP big v z1 z2) 1 = (v 2 : Nat) := by
 have hs : 8 ≤ sB big := by cases big <;> decide
 have hm : mB big ≤ 64 := by cases big <;> decide
 obtain ⟨p1, p2, p3, p4, -, p6, p7⟩ := hP.p
 have g0 : nthz (blkP big v z1 z2) 0 = (v 1 : Nat) := by
  rw [blk_get h1 h2 (by omega), encF_step 8 (by omega) (by cases big <;> decide), encF_step 7 (by omega) (by cases big <;> decide), encF_step 6 (by omega) (by cases big <;> decide), encF_step 5 (by omega) (by cases big <;> decide), encF_step 4 (by omega) (by cases big <;> decide),
   encF_step 3 (by omega) (by cases big <;> decide), encF_step 2 (by omega) (by cases big <;> decide), encF_step 1 (by omega) (by cases big <;> decide), encF_hit 0 (by omega) (by omega) (by cases big <;> rfl)]
  exact byt_small (x := v 1) (by omega)
 have g1 : nthz (blkP big v z1 z2) 1 = (v 2 : Nat) := by
  rw [blk_get h1 h2 (by omega), encF_step 8 (by omega) (by cases big <;> decide), encF_step 7 (by omega) (by cases big <;> decide), encF_step 6 (by omega) (by cases big <;> decide), encF_step 5 (by omega) (by cases big <;> decide), encF_step 4 (by omega) (by cases big <;> decide),
   encF_step 3 (by omega) (by cases big <;> decide), encF_step 2 (by omega) (by cases big <;> decide), encF_hit 1 (by omega) (by omega) (by cases big <;> rfl)]
  exact byt_small (x := v 2) (by omega)
 have g3 : nthz (blkP big v z1 z2) 3 = (v 4 : Nat) := by
  rw [blk_get h1 h2 (by omega), encF_step 8 (by omega) (by cases big <;> decide), encF_step 7 (by omega) (by cases big <;> decide), encF_step 6 (by omega) (by cases big <;> decide), encF_step 5 (by omega) (by cases big <;> decide), encF_step 4 (by omega) (by cases big <;> decide),
   encF_hit 3 (by omega) (by omega) (by cases big <;> rfl)]
  exact byt_small (x := v 4) (by omega)
 have h9 : atB big 9 < 2 * sB big := by cases big <;> decide
 have g9 : nthz (blkP big v z1 z2) (atB big 9) = (v 9 : Nat) := by
  rw [blk_get h1 h2 h9, encF_hit 8 (by omega) (by omega) rfl]
  exact byt_small (x := v 9) (by omega)
 refine ⟨⟨blkP_length h1 h2, fun hb i i1 i2 => ?_, fun h => (by cases h), ?_⟩, g1⟩
 ·subst hb
  have hsi : i < 2 * sB true := i2
  have ha : ∀ k, k < 9 → ¬ (atB true (k + 1) ≤ i ∧ i < atB true (k + 1) + szB true (k + 1)) := fun k hk h => by
   have : atB true (k + 1) + szB true (k + 1) ≤ 18 := by
    rcases (show k = 0 ∨ k = 1 ∨ k = 2 ∨ k = 3 ∨ k = 4 ∨ k = 5 ∨ k = 6 ∨ k = 7 ∨ k = 8 by omega) with rfl | rfl | rfl | rfl | rfl | rfl | rfl | rfl | rfl <;> decide
   omega
  rw [blk_get h1 h2 hsi, encF_step 8 (by omega) (ha 8 (by omega)), encF_step 7 (by omega) (ha 7 (by omega)), encF_step 6 (by omega) (ha 6 (by omega)), encF_step 5 (by omega) (ha 5 (by omega)), encF_step 4 (by omega) (ha 4 (by omega)), encF_step 3 (by omega) (ha 3 (by omega)),
   encF_step 2 (by omega) (ha 2 (by omega)), encF_step 1 (by omega) (ha 1 (by omega)), encF_step 0 (by omega) (ha 0 (by omega)), encF_zero]
 ·rw [g0, g1, g3, g9]
  exact ⟨p1, p2, fun _ => p4.1, p7⟩
end Go.Proofs.YtchepcilkcdemaaGreat
namespace Go.Proofs.YtchepcilkcdemaaGreat
open Go.ChangeShapes Go.WideShapes Go.ChangeAt Go.RowKit Go.Joins Go.Shelf Go.Maps
open Go.Lib (hid)
attribute [local go_sem] Oper.semAt_some
theorem nthz_sub' {zs : List Int} {i p n : Nat} (h : i < n) : nthz ((zs.drop p).take n) i = nthz zs (p + i) := by
 unfold nthz; simp [List.getD_eq_getElem?_getD, List.getElem?_take, h, List.getElem?_drop]
theorem hold_nth' {w w' : World} {a : Option Addr} {n c : Nat} {zs : List Int} (h : Hold w (.slice a n c) zs) (hb : Below w.heap.size w w') {j : Nat} (hj : j < zs.length) : ∃ b off, a = some ⟨b, off, none⟩ ∧ b < w'.heap.size ∧ w'.cell? ⟨b, off + j, none⟩ = some (.int .u8 (nthz zs j)) ∧ 0 ≤ nthz zs j ∧ nthz zs j ≤ 255 := by
 have hne : zs ≠ [] := fun e => by rw [e] at hj; simp at hj
 rcases h.2 with ⟨h2, -⟩ | ⟨ad, cap, e, -, -, h3⟩
 ·exact absurd h2 hne
 ·obtain ⟨b, off, rfl, h4, h5⟩ := h3.resolve_left hne
  simp only [Value.slice.injEq] at e
  exact ⟨b, off, e.1, Nat.lt_of_lt_of_le h4 hb.size, (hb.cell (p := ⟨b, off + j, none⟩) h4).trans (h5 j hj), (mem_nthz h.1 hj).2⟩
theorem refAdd_ok (lo n : Nat) (h : lo + n < 9223372036854775808) (w : World) :
  Calls Tryz.prog 147 #[.int .u64 (lo : Nat), .int .u64 0, .int .u64 (n : Nat)] w fun e w' => e = .returned (.tuple #[.int .u64 ((lo + n : Nat) : Int), .int .u64 0, .bool false]) ∧ w' = w := by
 have q1 : IntKind.u64.wrap ((lo : Int) + n) = (lo : Int) + n := u64_wrap_id _ (by omega) (by omega)
 have q2 : ¬ ((lo : Int) + n < lo) := by omega
 have q3 : (lo : Int) ≤ (lo : Int) + n := by omega
 rw [Int.natCast_add]
 clear h
 go_enter Tryz.func147, Tryz.ntmps147
 go_wp2
 exact bodyPost_ret (results_tmp3 (fn := Tryz.f147) (t := 6) (u := 7) (v := 8) rfl _ _ _) rfl ⟨rfl, rfl⟩
theorem padTake_snoc {n : Nat} {x : List Int} {j : Nat} (hj : j < n) (hx : x.length ≤ n) : (padZ n x).take (j + 1) = (padZ n x).take j ++ [if j < x.length then nthz x j else 0] := by
 have hl := padZ_length hx
 rw [take_snoc (zs := padZ n x) (by omega)]
 congr 2
 unfold padZ nthz
 simp only [List.getD_eq_getElem?_getD]
 by_cases h : j < x.length
 ·rw [if_pos h, List.getElem?_append_left h]
 ·rw [if_neg h, List.getElem?_append_right (by omega), List.getElem?_replicate, if_pos (by omega)]; rfl
theorem refCut_ok (zs : List Int) (v : Value) (p n : Nat) (w : World) (h : Hold w v zs) (hn : n ≤ 65535) (hp : p ≤ zs.length) (hm : (zs.length : Int) ≤ 281474976710656) :
  Calls Tryz.prog 150 #[v, .int .i64 (p : Nat), .int .i64 (n : Nat)] w fun e w' => ∃ v', e = .returned v' ∧ w'.ownsRow w.heap.size 5 1 v' n ((padZ n ((zs.drop p).take n)).map encB) ∧ Below w.heap.size w w' := by
 obtain ⟨i0, hi, hz0, hz1, hz2⟩ := info_parts info_u8
 obtain ⟨a, cap, rfl, hc1, hc2⟩ := h.slice
 have HH := hid h
 obtain ⟨X, hX⟩ : ∃ X, (zs.drop p).take n = X := ⟨_, rfl⟩
 have hXl : X.length = min n (zs.length - p) := by rw [← hX]; simp
 have hXg : ∀ j, j < X.length → nthz X j = nthz zs (p + j) := fun j hj => by rw [← hX]; exact nthz_sub' (by omega)
 have hPl := padZ_length (n := n) (zs := X) (by omega)
 rw [hX]
 have HXL := hid hXl
 have HXG := hid hXg
 have HPL := hid hPl
 clear h hX hXl hXg hPl
 go_enter Tryz.func150, Tryz.ntmps150
 go_wp2_with fail
 go_loopw [7, 8] (fun b i wr => ∃ j : Nat, i = .int .i64 (j : Nat) ∧ j ≤ n ∧ wr.ownsRow w.heap.size 5 1 b j (((padZ n X).take j).map encB) ∧ Below w.heap.size w wr) (fun _ i _ => n - (intOf i).toNat)
 case atStart => exact ⟨0, rfl, Nat.zero_le _, by simpa using World.ownsRow_nil w w.heap.size 5 1, Below.refl _ _⟩
 case round =>
  obtain ⟨j, rfl, hj, hown, hb⟩ := hrel
  have HB := hid hb
  have HO := hid hown
  obtain ⟨a1, n1, c1, rfl⟩ := own_slice hown
  by_cases hlt : j < n
  case neg =>
   obtain rfl : j = n := by omega
   clear hown hb
   go_wp2
   go_ret
   refine ⟨_, rfl, ?_, HB.out⟩
   have := HO.out
   rwa [List.take_of_length_le (by rw [HPL.out]; exact Nat.le_refl _)] at this
  have hps := padTake_snoc (x := X) hlt (by have := HXL.out; omega)
  have HPS := hid hps
  clear hps hown
  by_cases hin : p + j < zs.length
  case pos =>
   have hjX : j < X.length := by have := HXL.out; omega
   have hZ := HPS.out
   rw [if_pos hjX, HXG.out j hjX] at hZ
   have HZ := hid hZ
   obtain ⟨bb, of', rfl, q1, q2, q3, q4⟩ := hold_nth' HH.out hb hin
   have hpj : (p : Int) + j < zs.length := by omega
   have hpj2 : 0 ≤ (p : Int) + j ∧ (p : Int) + j < 9223372036854775808 := by omega
   obtain ⟨hpj3, hpj4⟩ := hpj2
   generalize nthz zs (p + j) = z at *
   clear hb hZ HPS
   go_wp2_with (at_builtin; refine wpList_append_own _ rfl _ _ 24 rfl w.heap.size 5 i0 (.int .u8 0) 1 1 Tryz.underlying24 hi hz0 hz1 hz2 rfl (by decide) _ _ _ rfl (HO.out.alloc _) ⟨wr.heap.size, 0, none⟩ 1 1 [.int .u8 z] rfl rfl (cell_one_new _ _ _) (by simp [Value.oneCell']) (by unfold maxLen; omega) (by omega) (by simp; have := HB.out.size; omega) ?_; intro v' w6 hown' hgrow _; have hb3 : Below w.heap.size w w6 := (HB.out.alloc HB.out.size _).grown hgrow (by simp; have := HB.out.size; omega) (fun k e => (HO.out.lt k e).1))
   refine ⟨⟨j + 1, rfl, by omega, by rw [HZ.out, List.map_append]; exact hown', hb3⟩, by simp [intOf]; omega⟩
  have hZ := HPS.out
  rw [if_neg (by have := HXL.out; omega)] at hZ
  have HZ := hid hZ
  have hpj : ¬ ((p : Int) + j < zs.length) := by omega
  clear hb hZ HPS
  go_wp2_with (at_builtin; refine wpList_append_own _ rfl _ _ 24 rfl w.heap.size 5 i0 (.int .u8 0) 1 1 Tryz.underlying24 hi hz0 hz1 hz2 rfl (by decide) _ _ _ rfl (HO.out.alloc _) ⟨wr.heap.size, 0, none⟩ 1 1 [.int .u8 0] rfl rfl (cell_one_new _ _ _) (by simp [Value.oneCell']) (by unfold maxLen; omega) (by omega) (by simp; have := HB.out.size; omega) ?_; intro v' w6 hown' hgrow _; have hb3 : Below w.heap.size w w6 := (HB.out.alloc HB.out.size _).grown hgrow (by simp; have := HB.out.size; omega) (fun k e => (HO.out.lt k e).1))
  refine ⟨⟨j + 1, rfl, by omega, by rw [HZ.out, List.map_append]; exact hown', hb3⟩, by simp [intOf]; omega⟩
theorem refKeyed_ok (big : Bool) (zs : List Int) (v : Value) (w : World) (h : Hold w v zs) (hk : zs.length ≤ mB big) :
  Calls Tryz.prog 145 #[.int .i64 (kB big), v] w fun e w' => ∃ v', e = .returned v' ∧ w'.ownsRow w.heap.size 5 1 v' (keyZ (bB big) zs).length ((keyZ (bB big) zs).map encB) ∧ Below w.heap.size w w' := by
 obtain ⟨i0, hi, hz0, hz1, hz2⟩ := info_parts info_u8
 obtain ⟨a, cap, rfl, hc1, hc2⟩ := h.slice
 have hMB : mB big ≤ bB big ∧ bB big ≤ 128 := by cases big <;> decide
 obtain ⟨n, hn⟩ : ∃ n, bB big = n := ⟨_, rfl⟩
 have hBK := hid (fun (W : World) => refBlock_ok big W)
 rw [hn] at hBK hMB ⊢
 have HH := hid h
 have HMB := hid hMB
 by_cases h0 : zs.length = 0
 case pos =>
  have e : keyZ n zs = [] := by unfold keyZ; rw [if_pos h0]
  rw [e]
  obtain rfl : zs = [] := List.eq_nil_of_length_eq_zero h0
  clear hMB h hn hk
  go_enter Tryz.func145, Tryz.ntmps145
  go_wp2
  go_ret
  exact ⟨_, rfl, World.ownsRow_nil _ _ _ _, Below.refl _ _⟩
 have e : keyZ n zs = padZ n zs := by unfold keyZ; rw [if_neg h0]
 have hPl := padZ_length (n := n) (zs := zs) (by omega)
 rw [e, hPl]
 have HPL := hid hPl
 have hz1' : 0 < zs.length := by omega
 have hq0 : ((zs.length : Int) == 0) = false := beq_eq_false_iff_ne.2 (by omega)
 have hzl : (zs.length : Int) ≤ 128 := by omega
 have hnl : (n : Int) ≤ 128 := by omega
 have HK := hid hk
 clear h hPl e h0 hMB hn hk
 go_enter Tryz.func145, Tryz.ntmps145
 go_wp2_with fail
 go_loopw [5, 6] (fun b i wr => ∃ j : Nat, i = .int .i64 (j : Nat) ∧ j ≤ n ∧ wr.ownsRow w.heap.size 5 1 b j (((padZ n zs).take j).map encB) ∧ Below w.heap.size w wr) (fun _ i _ => n - (intOf i).toNat)
 case atStart => exact ⟨0, rfl, Nat.zero_le _, by simpa using World.ownsRow_nil w w.heap.size 5 1, Below.refl _ _⟩
 case round =>
  obtain ⟨j, rfl, hj, hown, hb⟩ := hrel
  have HB := hid hb
  have HO := hid hown
  obtain ⟨a1, n1, c1, rfl⟩ := own_slice hown
  by_cases hlt : j < n
  case neg =>
   obtain rfl : j = n := by omega
   clear hown hb
   go_wp2_with fail
   refine (hBK.out _).mono ?_; rintro e w4 ⟨rfl, hw⟩
   rw [hw]; clear hw
   go_wp2
   go_ret
   refine ⟨_, rfl, ?_, HB.out⟩
   have := HO.out
   rwa [List.take_of_length_le (by rw [HPL.out]; exact Nat.le_refl _)] at this
  have hps := padTake_snoc (x := zs) hlt (by have := HMB.out; have := HK.out; omega)
  have HPS := hid hps
  have hjn : (j : Int) < n := by omega
  clear hps hown
  by_cases hin : j < zs.length
  case pos =>
   have hZ := HPS.out
   rw [if_pos hin] at hZ
   have HZ := hid hZ
   obtain ⟨bb, of', rfl, q1, q2, q3, q4⟩ := hold_nth' HH.out hb hin
   have hpj : (j : Int) < zs.length := by omega
   generalize nthz zs j = z at *
   clear hb hZ HPS
   go_wp2_with fail
   refine (hBK.out _).mono ?_; rintro e w4 ⟨rfl, hw⟩
   rw [hw]; clear hw
   go_wp2_with (at_builtin; refine wpList_append_own _ rfl _ _ 24 rfl w.heap.size 5 i0 (.int .u8 0) 1 1 Tryz.underlying24 hi hz0 hz1 hz2 rfl (by decide) _ _ _ rfl (HO.out.alloc _) ⟨wr.heap.size, 0, none⟩ 1 1 [.int .u8 z] rfl rfl (cell_one_new _ _ _) (by simp [Value.oneCell']) (by unfold maxLen; omega) (by omega) (by simp; have := HB.out.size; omega) ?_; intro v' w6 hown' hgrow _; have hb3 : Below w.heap.size w w6 := (HB.out.alloc HB.out.size _).grown hgrow (by simp; have := HB.out.size; omega) (fun k e => (HO.out.lt k e).1))
   refine ⟨⟨j + 1, rfl, by omega, by rw [HZ.out, List.map_append]; exact hown', hb3⟩, by simp [intOf]; omega⟩
  have hZ := HPS.out
  rw [if_neg hin] at hZ
  have HZ := hid hZ
  have hpj : ¬ ((j : Int) < zs.length) := by omega
  clear hb hZ HPS
  go_wp2_with fail
  refine (hBK.out _).mono ?_; rintro e w4 ⟨rfl, hw⟩
  rw [hw]; clear hw
  go_wp2_with (at_builtin; refine wpList_append_own _ rfl _ _ 24 rfl w.heap.size 5 i0 (.int .u8 0) 1 1 Tryz.underlying24 hi hz0 hz1 hz2 rfl (by decide) _ _ _ rfl (HO.out.alloc _) ⟨wr.heap.size, 0, none⟩ 1 1 [.int .u8 0] rfl rfl (cell_one_new _ _ _) (by simp [Value.oneCell']) (by unfold maxLen; omega) (by omega) (by simp; have := HB.out.size; omega) ?_; intro v' w6 hown' hgrow _; have hb3 : Below w.heap.size w w6 := (HB.out.alloc HB.out.size _).grown hgrow (by simp; have := HB.out.size; omega) (fun k e => (HO.out.lt k e).1))
  refine ⟨⟨j + 1, rfl, by omega, by rw [HZ.out, List.map_append]; exact hown', hb3⟩, by simp [intOf]; omega⟩
/-- A state of sixteen words, of which the first eight count. -/
def st16 (h : List Int) : List Int := h ++ List.replicate 8 0
theorem st16_words {N : Nat} (hN : N ≤ 64) {h : List Int} (hh : Words N 8 h) : Words 64 16 (st16 h) := by
 refine ⟨by simp [st16, hh.1], fun z hz => ?_⟩
 rcases List.mem_append.1 hz with hz | hz
 ·have := hh.2 z hz
  have h2 : (2 : Int) ^ N ≤ 2 ^ 64 := by exact_mod_cast Nat.pow_le_pow_right (by omega) hN
  omega
 ·rw [List.eq_of_mem_replicate hz]; decide
theorem st16_wd {h : List Int} (hh : h.length = 8) {j : Nat} (hj : j < 8) : wd (st16 h) j = wd h j := by
 unfold wd st16; simp [List.getD_eq_getElem?_getD, List.getElem?_append_left (show j < h.length by omega)]
/-- Laid over: the first j words of h. -/
def fillS (h b : List Int) (j : Nat) : List Int := h.take j ++ b.drop j
theorem fillS_set {h b : List Int} {j : Nat} (hj : j < h.length) (hb : j < b.length) : (fillS h b j).set j (wd h j) = fillS h b (j + 1) := by
 have e1 : h.take (j + 1) = h.take j ++ [wd h j] := by
  rw [List.take_succ_eq_append_getElem hj]; simp [wd, List.getD_eq_getElem?_getD, hj]
 have e2 : b.drop j = b[j] :: b.drop (j + 1) := List.drop_eq_getElem_cons hb
 have e3 : (h.take j).length = j := by simp; omega
 unfold fillS
 rw [e1, e2, List.set_append_right _ _ (by omega), e3, Nat.sub_self, List.set_cons_zero]
 simp
theorem fillS_length {h b : List Int} {j : Nat} (hj : j ≤ h.length) (hb : j ≤ b.length) : (fillS h b j).length = b.length := by simp [fillS]; omega
theorem arr_get {k : IntKind} {L : List Int} {j : Nat} (hj : j < L.length) : (arrV k L)[j]? = some (.int k (wd L j)) := by
 simp [arrV, wd, List.getD_eq_getElem?_getD, hj]
theorem Holds8.mono_below' {w w' : World} {v : Value} {zs : List Int} {B : Nat} (h : Holds8 w v zs) (hb : Below B w w') (hB : w.heap.size ≤ B) : Holds8 w' v zs := holds8_below h (hb.mono hB)
def Z8 : List Int := List.replicate 8 0
theorem fill_all {R h : List Int} (hR : R.length = 8) (hh : h.length = 8) : fillS R (st16 h) 8 = st16 R := by
 unfold fillS st16
 rw [List.take_of_length_le (by omega), List.drop_append_of_le_length (by omega), List.drop_of_length_le (by omega), List.nil_append]
theorem refIn_true (h bs : List Int) (hh : Words 64 8 h) (v : Value) (lo : Nat) (hlo : (lo : Int) < 9223372036854775808) (last node : Bool) (w : World) (hH : Holds8 w v bs) (hz : ∀ z ∈ bs, 0 ≤ z ∧ z ≤ 255) (hl : bs.length = 128) :
  Calls Tryz.prog 149 #[.int .i64 1, .agg (arrV .u64 (st16 h)), v, .int .u64 (lo : Nat), .int .u64 0, .bool last, .bool node] w fun e w' => e = .returned (.agg (arrV .u64 (st16 (compZ true h bs (lo : Nat) last node)))) ∧ Below w.heap.size w w' := by
 obtain ⟨b0, hb0⟩ : ∃ b0, w.heap.size = b0 := ⟨_, rfl⟩
 have hMw := wordsZ_words 8 16 hz (by rw [hl])
 obtain ⟨M, hM⟩ : ∃ M, wordsZ 8 16 bs = M := ⟨_, rfl⟩
 obtain ⟨R, hR⟩ : ∃ R, compZ true h bs (lo : Nat) last node = R := ⟨_, rfl⟩
 have hRw : Words 64 8 R := by rw [← hR]; exact compZ_words true hh _ _ _ _
 have hR2 : compF mixBig IVb 12 h M (lo : Nat) 0 last node = R := by rw [← hR, ← hM]; rfl
 rw [hR]
 rw [hM] at hMw
 have hS16 := st16_words (by decide) hh
 have hwd : ∀ j, j < 8 → wd (st16 h) j = wd h j := fun j hj => st16_wd hh.1 hj
 have HM_ := hid hM
 have HR2_ := hid hR2
 have HL_ := hid hl
 have HLO_ := hid hlo
 have HMW_ := hid hMw
 have HRW_ := hid hRw
 have HH_ := hid hh
 have HS16_ := hid hS16
 have HWD_ := hid hwd
 have HZ_ := hid hz
 have HHB_ := hid hH
 clear hM hR hR2 hl hlo hMw hRw hwd hS16 hz hH hh
 go_enter Tryz.func149, Tryz.ntmps149
 go_wp2_with fail
 have hs3 : (((w.alloc (.cells (arrV .u64 (st16 h)) 212)).alloc (.cells #[.int .u64 0, .int .u64 0, .int .u64 0, .int .u64 0, .int .u64 0, .int .u64 0, .int .u64 0, .int .u64 0, .int .u64 0, .int .u64 0, .int .u64 0, .int .u64 0, .int .u64 0, .int .u64 0, .int .u64 0, .int .u64 0] 212)).alloc (.cells (arrV .u64 Z8) 239)).heap.size = b0 + 3 := by simp [hb0]
 have r0 : (((w.alloc (.cells (arrV .u64 (st16 h)) 212)).alloc (.cells #[.int .u64 0, .int .u64 0, .int .u64 0, .int .u64 0, .int .u64 0, .int .u64 0, .int .u64 0, .int .u64 0, .int .u64 0, .int .u64 0, .int .u64 0, .int .u64 0, .int .u64 0, .int .u64 0, .int .u64 0, .int .u64 0] 212)).alloc (.cells (arrV .u64 Z8) 239)).heap[b0]? = some (.cells (arrV .u64 (st16 h)) 212 (0, 0)) := by
  rw [Below.heap_alloc _ _ _ (by simp [hb0]; omega), Below.heap_alloc _ _ _ (by simp [hb0]), ← hb0]; exact World.alloc_heap_new _ _
 have r1 : (((w.alloc (.cells (arrV .u64 (st16 h)) 212)).alloc (.cells #[.int .u64 0, .int .u64 0, .int .u64 0, .int .u64 0, .int .u64 0, .int .u64 0, .int .u64 0, .int .u64 0, .int .u64 0, .int .u64 0, .int .u64 0, .int .u64 0, .int .u64 0, .int .u64 0, .int .u64 0, .int .u64 0] 212)).alloc (.cells (arrV .u64 Z8) 239)).heap[b0 + 1]? = some (.cells #[.int .u64 0, .int .u64 0, .int .u64 0, .int .u64 0, .int .u64 0, .int .u64 0, .int .u64 0, .int .u64 0, .int .u64 0, .int .u64 0, .int .u64 0, .int .u64 0, .int .u64 0, .int .u64 0, .int .u64 0, .int .u64 0] 212 (0, 0)) := by
  rw [Below.heap_alloc _ _ _ (by simp [hb0]), show b0 + 1 = (w.alloc (.cells (arrV .u64 (st16 h)) 212)).heap.size by simp [hb0]]; exact World.alloc_heap_new _ _
 have r2 : (((w.alloc (.cells (arrV .u64 (st16 h)) 212)).alloc (.cells #[.int .u64 0, .int .u64 0, .int .u64 0, .int .u64 0, .int .u64 0, .int .u64 0, .int .u64 0, .int .u64 0, .int .u64 0, .int .u64 0, .int .u64 0, .int .u64 0, .int .u64 0, .int .u64 0, .int .u64 0, .int .u64 0] 212)).alloc (.cells (arrV .u64 Z8) 239)).heap[b0 + 1 + 1]? = some (.cells (arrV .u64 (fillS h Z8 0)) 239 (0, 0)) := by
  rw [show b0 + 1 + 1 = ((w.alloc (.cells (arrV .u64 (st16 h)) 212)).alloc (.cells #[.int .u64 0, .int .u64 0, .int .u64 0, .int .u64 0, .int .u64 0, .int .u64 0, .int .u64 0, .int .u64 0, .int .u64 0, .int .u64 0, .int .u64 0, .int .u64 0, .int .u64 0, .int .u64 0, .int .u64 0, .int .u64 0] 212)).heap.size by simp [hb0]]; exact World.alloc_heap_new _ _
 have hb3 : Below b0 w (((w.alloc (.cells (arrV .u64 (st16 h)) 212)).alloc (.cells #[.int .u64 0, .int .u64 0, .int .u64 0, .int .u64 0, .int .u64 0, .int .u64 0, .int .u64 0, .int .u64 0, .int .u64 0, .int .u64 0, .int .u64 0, .int .u64 0, .int .u64 0, .int .u64 0, .int .u64 0, .int .u64 0] 212)).alloc (.cells (arrV .u64 Z8) 239)) := by rw [← hb0]; exact (((Below.refl _ _).alloc (Nat.le_refl _) _).alloc (by simp) _).alloc (by simp; omega) _
 change Code.wp _ _ _ _ (((w.alloc (.cells (arrV .u64 (st16 h)) 212)).alloc (.cells #[.int .u64 0, .int .u64 0, .int .u64 0, .int .u64 0, .int .u64 0, .int .u64 0, .int .u64 0, .int .u64 0, .int .u64 0, .int .u64 0, .int .u64 0, .int .u64 0, .int .u64 0, .int .u64 0, .int .u64 0, .int .u64 0] 212)).alloc (.cells (arrV .u64 Z8) 239))
 generalize (((w.alloc (.cells (arrV .u64 (st16 h)) 212)).alloc (.cells #[.int .u64 0, .int .u64 0, .int .u64 0, .int .u64 0, .int .u64 0, .int .u64 0, .int .u64 0, .int .u64 0, .int .u64 0, .int .u64 0, .int .u64 0, .int .u64 0, .int .u64 0, .int .u64 0, .int .u64 0, .int .u64 0] 212)).alloc (.cells (arrV .u64 Z8) 239)) = W3 at *
 have R0 := hid r0
 have R1 := hid r1
 have R2 := hid r2
 have HB3 := hid hb3
 clear r0 r1 r2 hb3
 go_loopw [16] (fun i wr => ∃ j : Nat, i = .int .i64 (j : Nat) ∧ j ≤ 8 ∧ wr.heap[b0 + 1 + 1]? = some (.cells (arrV .u64 (fillS h Z8 j)) 239 (0, 0)) ∧ But (b0 + 1 + 1) W3 wr) (fun i _ => 8 - (intOf i).toNat)
 case atStart => exact ⟨0, rfl, by omega, R2.out, But.refl _ _⟩
 case round =>
  obtain ⟨j, rfl, hj, hrow, hb⟩ := hrel
  have HROW := hid hrow
  have HB := hid hb
  have hwrs : b0 + 3 ≤ wr.heap.size := by have := hb.size; omega
  by_cases hlt : j < 8
  case pos =>
   have c0 : wr.cell? ⟨b0, j, none⟩ = some (.int .u64 (wd h j)) := by
    rw [cell_of_heap ((hb.block b0 (by omega) (by omega)).trans R0.out) j, arr_get (by rw [HS16_.out.1]; omega), HWD_.out j hlt]
   have hfl : (fillS h Z8 j).length = 8 := fillS_length (by rw [HH_.out.1]; omega) (by show j ≤ 8; omega)
   have c1 : wr.cell? ⟨b0 + 1 + 1, j, none⟩ = some (.int .u64 (wd (fillS h Z8 j) j)) := by rw [cell_of_heap hrow j, arr_get (by omega)]
   have f1 := frozen_of_row wr (b0 + 1 + 1) j _ _ hrow
   have hst := heap_setCell_same wr (b0 + 1 + 1) j _ _ (.int .u64 (wd h j)) hrow
   rw [arrV_set, fillS_set (by rw [HH_.out.1]; omega) (by show j < 8; omega)] at hst
   have hbd := wd_bounds HH_.out hlt
   have HST := hid hst
   have hjj : (j : Int) < 8 := by omega
   generalize wd (fillS h Z8 j) j = zo at c1
   generalize wd h j = zj at *
   obtain ⟨hbd1, hbd2⟩ := hbd
   clear hst hfl hrow hb
   go_wp2
   exact ⟨⟨j + 1, rfl, by omega, HST.out, HB.out.set _ _⟩, by simp [intOf]; omega⟩
  obtain rfl : j = 8 := by omega
  rw [show fillS h Z8 8 = h by unfold fillS; rw [List.take_of_length_le (by rw [HH_.out.1]; omega)]; simp [Z8]] at HROW
  have hh8 := HHB_.out.mono_below' (HB3.out.trans (hb.below (by omega) (by omega))) (by omega)
  have HH8 := hid hh8
  clear hrow hb hh8 hj hlt
  go_wp2_with fail
  refine (refWords64_ok bs v _ HH8.out HZ_.out HL_.out).mono ?_; rintro e w1 ⟨rfl, hb1⟩
  rw [HM_.out]
  have hs1 := hb1.size
  have k0 := rowStay ((HB.out.block b0 (by omega) (by omega)).trans R0.out) hb1
  have k1 := rowStay ((HB.out.block (b0 + 1) (by omega) (by omega)).trans R1.out) hb1
  have k2 := rowStay HROW.out hb1
  have hbw : Below b0 w w1 := (HB3.out.trans (HB.out.below (by omega) (by omega))).trans (hb1.mono (by omega))
  have K0 := hid k0
  have K1 := hid k1
  have K2 := hid k2
  have HBW := hid hbw
  clear k0 k1 k2 hbw hb1 HB HROW R0 R1 R2 HB3 HH8
  go_upto_region 8 with ((with_reducible show wpList _ _ _ (Oper.mk none (Op.store 212 _ _) _ _ _ _ :: _) _ _); refine wpList_store_row rfl 212 _ _ rfl w1.heap.size (arrV .u64 M) rfl rfl 212 _ (World.alloc_heap_new _ _) (by rw [arrV_size, HMW_.out.1]; kernel_rfl) (by rw [arrV_size, HMW_.out.1]; rfl) arrV_all ?_)
  refine letterW ?_
  intro W hW
  obtain ⟨bv, hbv⟩ : ∃ bv, w1.heap.size = bv := ⟨_, rfl⟩
  have g0 : W.heap[b0]? = some (.cells (arrV .u64 (st16 h)) 212 (0, 0)) := by rw [hW]; exact (setRow_other (w1.alloc _) _ _ _ (by omega)).trans ((Below.heap_alloc _ _ _ (by omega)).trans K0.out)
  have g1 : W.heap[b0 + 1]? = some (.cells #[.int .u64 0, .int .u64 0, .int .u64 0, .int .u64 0, .int .u64 0, .int .u64 0, .int .u64 0, .int .u64 0, .int .u64 0, .int .u64 0, .int .u64 0, .int .u64 0, .int .u64 0, .int .u64 0, .int .u64 0, .int .u64 0] 212 (0, 0)) := by rw [hW]; exact (setRow_other (w1.alloc _) _ _ _ (by omega)).trans ((Below.heap_alloc _ _ _ (by omega)).trans K1.out)
  have g2 : W.heap[b0 + 1 + 1]? = some (.cells (arrV .u64 h) 239 (0, 0)) := by rw [hW]; exact (setRow_other (w1.alloc _) _ _ _ (by omega)).trans ((Below.heap_alloc _ _ _ (by omega)).trans K2.out)
  have g3 : W.heap[bv]? = some (.cells (arrV .u64 M) 212 (0, 0)) := by rw [hW, ← hbv]; exact setRow_heap _ _ _ _ _ _ (World.alloc_heap_new _ _)
  have hB2 : Below b0 w W := by rw [hW]; exact below_setRow (HBW.out.alloc (by omega) _) (by omega) _
  rw [hbv]
  have hbvb : b0 + 3 ≤ bv := by omega
  clear hW hbv K0 K1 K2 HBW hs1 hwrs
  go_wp2_with (first | ((with_reducible show wpList _ _ _ (Oper.mk (some 41) _ _ _ _ _ :: _) _ _); refine wpList_load_row rfl 239 _ rfl (b0 + 1 + 1) rfl _ _ _ _ g2 Tryz.underlying239 rfl (by rw [arrV_size, HH_.out.1]; kernel_rfl) ?_) | ((with_reducible show wpList _ _ _ (Oper.mk (some 42) _ _ _ _ _ :: _) _ _); refine wpList_load_row rfl 212 _ rfl bv rfl _ _ _ _ g3 Tryz.underlying212 rfl (by rw [arrV_size, HMW_.out.1]; kernel_rfl) ?_))
  refine (refF64 h M HH_.out HMW_.out (lo : Nat) 0 last node _).mono ?_; rintro e w2 ⟨rfl, hb2⟩
  rw [HR2_.out]
  have hs2 := hb2.size
  have hWs := (Array.getElem?_eq_some_iff.1 g3).1
  have j0 := rowStay g0 hb2
  have j1 := rowStay g1 hb2
  have j2 := rowStay g2 hb2
  have hB3 : Below b0 w w2 := hB2.trans (hb2.mono (by omega))
  clear g0 g1 g2 g3 hB2 hb2
  go_upto_region 9 with ((with_reducible show wpList _ _ _ (Oper.mk none (Op.store 239 _ _) _ _ _ _ :: _) _ _); refine wpList_store_row rfl 239 _ _ rfl (b0 + 1 + 1) (arrV .u64 R) rfl rfl 239 _ j2 (by rw [arrV_size, HRW_.out.1]; kernel_rfl) (by rw [arrV_size, arrV_size, HRW_.out.1, HH_.out.1]) arrV_all ?_)
  refine letterW ?_
  intro W7 hW7
  have m0 : W7.heap[b0]? = some (.cells (arrV .u64 (fillS R (st16 h) 0)) 212 (0, 0)) := by rw [hW7]; exact (setRow_other w2 _ _ _ (by omega)).trans j0
  have m1 : W7.heap[b0 + 1]? = some (.cells #[.int .u64 0, .int .u64 0, .int .u64 0, .int .u64 0, .int .u64 0, .int .u64 0, .int .u64 0, .int .u64 0, .int .u64 0, .int .u64 0, .int .u64 0, .int .u64 0, .int .u64 0, .int .u64 0, .int .u64 0, .int .u64 0] 212 (0, 0)) := by rw [hW7]; exact (setRow_other w2 _ _ _ (by omega)).trans j1
  have m2 : W7.heap[b0 + 1 + 1]? = some (.cells (arrV .u64 R) 239 (0, 0)) := by rw [hW7]; exact setRow_heap _ _ _ _ _ _ j2
  have hB7 : Below b0 w W7 := by rw [hW7]; exact below_setRow hB3 (by omega) _
  have hs7 : b0 + 3 ≤ W7.heap.size := by rw [hW7, setRow_size]; omega
  have M0 := hid m0
  have M1 := hid m1
  have M2 := hid m2
  have HB7 := hid hB7
  clear hW7 m0 m1 m2 hB7 j0 j1 j2 hB3 hs2 hWs hbvb
  go_wp2_with fail
  go_loopw [19] (fun i wr => ∃ j : Nat, i = .int .i64 (j : Nat) ∧ j ≤ 8 ∧ wr.heap[b0]? = some (.cells (arrV .u64 (fillS R (st16 h) j)) 212 (0, 0)) ∧ But b0 W7 wr) (fun i _ => 8 - (intOf i).toNat)
  case atStart => exact ⟨0, rfl, by omega, M0.out, But.refl _ _⟩
  case round =>
   obtain ⟨j, rfl, hj, hrow, hb⟩ := hrel
   have HROW := hid hrow
   have HB := hid hb
   have hwrs : b0 + 3 ≤ wr.heap.size := by have := hb.size; omega
   have h16 : (st16 h).length = 16 := HS16_.out.1
   by_cases hlt : j < 8
   case pos =>
    have c0 : wr.cell? ⟨b0 + 1 + 1, j, none⟩ = some (.int .u64 (wd R j)) := by rw [cell_of_heap ((hb.block (b0 + 1 + 1) (by omega) (by omega)).trans M2.out) j, arr_get (by rw [HRW_.out.1]; omega)]
    have hfl : (fillS R (st16 h) j).length = 16 := by rw [fillS_length (by rw [HRW_.out.1]; omega) (by omega), h16]
    have c1 : wr.cell? ⟨b0, j, none⟩ = some (.int .u64 (wd (fillS R (st16 h) j) j)) := by rw [cell_of_heap hrow j, arr_get (by omega)]
    have f1 := frozen_of_row wr b0 j _ _ hrow
    have hst := heap_setCell_same wr b0 j _ _ (.int .u64 (wd R j)) hrow
    rw [arrV_set, fillS_set (by rw [HRW_.out.1]; omega) (by omega)] at hst
    have hbd := wd_bounds HRW_.out hlt
    have HST := hid hst
    have hjj : (j : Int) < 8 := by omega
    generalize wd (fillS R (st16 h) j) j = zo at c1
    generalize wd R j = zj at *
    obtain ⟨hbd1, hbd2⟩ := hbd
    clear hst hfl hrow hb h16
    go_wp2
    exact ⟨⟨j + 1, rfl, by omega, HST.out, HB.out.set _ _⟩, by simp [intOf]; omega⟩
   obtain rfl : j = 8 := by omega
   rw [fill_all HRW_.out.1 HH_.out.1] at hrow
   have n1 := (hb.block (b0 + 1) (by omega) (by omega)).trans M1.out
   have hb9 : Below b0 w wr := HB7.out.trans (hb.below (Nat.le_refl _) (by omega))
   have hR16 := st16_words (by decide) HRW_.out
   clear hb h16 hj hlt HROW
   go_wp2_with (first | ((with_reducible show wpList _ _ _ (Oper.mk (some 57) _ _ _ _ _ :: _) _ _); refine wpList_load_row rfl 212 _ rfl b0 rfl _ _ _ _ hrow Tryz.underlying212 rfl (by rw [arrV_size, hR16.1]; kernel_rfl) ?_) | ((with_reducible show wpList _ _ _ (Oper.mk none (Op.store 212 _ _) _ _ _ _ :: _) _ _); refine wpList_store_row rfl 212 _ _ rfl (b0 + 1) (arrV .u64 (st16 R)) rfl rfl 212 _ n1 (by rw [arrV_size, hR16.1]; kernel_rfl) (by rw [arrV_size, hR16.1]; rfl) arrV_all ?_))
   exact bodyPost_ret (results_cell_row rfl _ _ (b0 + 1) 212 _ _ _ rfl (setRow_heap _ _ _ _ _ _ n1) Tryz.underlying212 rfl (by rw [arrV_size, hR16.1]; kernel_rfl)) rfl ⟨rfl, by rw [hb0]; exact below_setRow hb9 (by omega) _⟩
theorem refIn_false (h bs : List Int) (hh : Words 32 8 h) (v : Value) (lo : Nat) (hlo : (lo : Int) < 9223372036854775808) (last node : Bool) (w : World) (hH : Holds8 w v bs) (hz : ∀ z ∈ bs, 0 ≤ z ∧ z ≤ 255) (hl : bs.length = 64) :
  Calls Tryz.prog 149 #[.int .i64 2, .agg (arrV .u64 (st16 h)), v, .int .u64 (lo : Nat), .int .u64 0, .bool last, .bool node] w fun e w' => e = .returned (.agg (arrV .u64 (st16 (compZ false h bs (lo : Nat) last node)))) ∧ Below w.heap.size w w' := by
 obtain ⟨b0, hb0⟩ : ∃ b0, w.heap.size = b0 := ⟨_, rfl⟩
 have hMw := wordsZ_words 4 16 hz (by rw [hl])
 obtain ⟨M, hM⟩ : ∃ M, wordsZ 4 16 bs = M := ⟨_, rfl⟩
 obtain ⟨R, hR⟩ : ∃ R, compZ false h bs (lo : Nat) last node = R := ⟨_, rfl⟩
 have hRw : Words 32 8 R := by rw [← hR]; exact compZ_words false hh _ _ _ _
 have hR2 : compF mixSmall IVs 10 h M ((lo : Nat) % 4294967296) ((lo : Nat) / 4294967296) last node = R := by rw [← hR, ← hM]; rfl
 rw [hR]
 rw [hM] at hMw
 have hS16 := st16_words (by decide) hh
 have hwd : ∀ j, j < 8 → wd (st16 h) j = wd h j := fun j hj => st16_wd hh.1 hj
 have HM_ := hid hM
 have HR2_ := hid hR2
 have HL_ := hid hl
 have HLO_ := hid hlo
 have HMW_ := hid hMw
 have HRW_ := hid hRw
 have HH_ := hid hh
 have HS16_ := hid hS16
 have HWD_ := hid hwd
 have HZ_ := hid hz
 have HHB_ := hid hH
 clear hM hR hR2 hl hlo hMw hRw hwd hS16 hz hH hh
 go_enter Tryz.func149, Tryz.ntmps149
 go_wp2_with fail
 have hs3 : (((w.alloc (.cells (arrV .u64 (st16 h)) 212)).alloc (.cells #[.int .u64 0, .int .u64 0, .int .u64 0, .int .u64 0, .int .u64 0, .int .u64 0, .int .u64 0, .int .u64 0, .int .u64 0, .int .u64 0, .int .u64 0, .int .u64 0, .int .u64 0, .int .u64 0, .int .u64 0, .int .u64 0] 212)).alloc (.cells (arrV .u32 Z8) 249)).heap.size = b0 + 3 := by simp [hb0]
 have r0 : (((w.alloc (.cells (arrV .u64 (st16 h)) 212)).alloc (.cells #[.int .u64 0, .int .u64 0, .int .u64 0, .int .u64 0, .int .u64 0, .int .u64 0, .int .u64 0, .int .u64 0, .int .u64 0, .int .u64 0, .int .u64 0, .int .u64 0, .int .u64 0, .int .u64 0, .int .u64 0, .int .u64 0] 212)).alloc (.cells (arrV .u32 Z8) 249)).heap[b0]? = some (.cells (arrV .u64 (st16 h)) 212 (0, 0)) := by
  rw [Below.heap_alloc _ _ _ (by simp [hb0]; omega), Below.heap_alloc _ _ _ (by simp [hb0]), ← hb0]; exact World.alloc_heap_new _ _
 have r1 : (((w.alloc (.cells (arrV .u64 (st16 h)) 212)).alloc (.cells #[.int .u64 0, .int .u64 0, .int .u64 0, .int .u64 0, .int .u64 0, .int .u64 0, .int .u64 0, .int .u64 0, .int .u64 0, .int .u64 0, .int .u64 0, .int .u64 0, .int .u64 0, .int .u64 0, .int .u64 0, .int .u64 0] 212)).alloc (.cells (arrV .u32 Z8) 249)).heap[b0 + 1]? = some (.cells #[.int .u64 0, .int .u64 0, .int .u64 0, .int .u64 0, .int .u64 0, .int .u64 0, .int .u64 0, .int .u64 0, .int .u64 0, .int .u64 0, .int .u64 0, .int .u64 0, .int .u64 0, .int .u64 0, .int .u64 0, .int .u64 0] 212 (0, 0)) := by
  rw [Below.heap_alloc _ _ _ (by simp [hb0]), show b0 + 1 = (w.alloc (.cells (arrV .u64 (st16 h)) 212)).heap.size by simp [hb0]]; exact World.alloc_heap_new _ _
 have r2 : (((w.alloc (.cells (arrV .u64 (st16 h)) 212)).alloc (.cells #[.int .u64 0, .int .u64 0, .int .u64 0, .int .u64 0, .int .u64 0, .int .u64 0, .int .u64 0, .int .u64 0, .int .u64 0, .int .u64 0, .int .u64 0, .int .u64 0, .int .u64 0, .int .u64 0, .int .u64 0, .int .u64 0] 212)).alloc (.cells (arrV .u32 Z8) 249)).heap[b0 + 1 + 1]? = some (.cells (arrV .u32 (fillS h Z8 0)) 249 (0, 0)) := by
  rw [show b0 + 1 + 1 = ((w.alloc (.cells (arrV .u64 (st16 h)) 212)).alloc (.cells #[.int .u64 0, .int .u64 0, .int .u64 0, .int .u64 0, .int .u64 0, .int .u64 0, .int .u64 0, .int .u64 0, .int .u64 0, .int .u64 0, .int .u64 0, .int .u64 0, .int .u64 0, .int .u64 0, .int .u64 0, .int .u64 0] 212)).heap.size by simp [hb0]]; exact World.alloc_heap_new _ _
 have hb3 : Below b0 w (((w.alloc (.cells (arrV .u64 (st16 h)) 212)).alloc (.cells #[.int .u64 0, .int .u64 0, .int .u64 0, .int .u64 0, .int .u64 0, .int .u64 0, .int .u64 0, .int .u64 0, .int .u64 0, .int .u64 0, .int .u64 0, .int .u64 0, .int .u64 0, .int .u64 0, .int .u64 0, .int .u64 0] 212)).alloc (.cells (arrV .u32 Z8) 249)) := by rw [← hb0]; exact (((Below.refl _ _).alloc (Nat.le_refl _) _).alloc (by simp) _).alloc (by simp; omega) _
 change Code.wp _ _ _ _ (((w.alloc (.cells (arrV .u64 (st16 h)) 212)).alloc (.cells #[.int .u64 0, .int .u64 0, .int .u64 0, .int .u64 0, .int .u64 0, .int .u64 0, .int .u64 0, .int .u64 0, .int .u64 0, .int .u64 0, .int .u64 0, .int .u64 0, .int .u64 0, .int .u64 0, .int .u64 0, .int .u64 0] 212)).alloc (.cells (arrV .u32 Z8) 249))
 generalize (((w.alloc (.cells (arrV .u64 (st16 h)) 212)).alloc (.cells #[.int .u64 0, .int .u64 0, .int .u64 0, .int .u64 0, .int .u64 0, .int .u64 0, .int .u64 0, .int .u64 0, .int .u64 0, .int .u64 0, .int .u64 0, .int .u64 0, .int .u64 0, .int .u64 0, .int .u64 0, .int .u64 0] 212)).alloc (.cells (arrV .u32 Z8) 249)) = W3 at *
 have R0 := hid r0
 have R1 := hid r1
 have R2 := hid r2
 have HB3 := hid hb3
 clear r0 r1 r2 hb3
 go_loopw [21] (fun i wr => ∃ j : Nat, i = .int .i64 (j : Nat) ∧ j ≤ 8 ∧ wr.heap[b0 + 1 + 1]? = some (.cells (arrV .u32 (fillS h Z8 j)) 249 (0, 0)) ∧ But (b0 + 1 + 1) W3 wr) (fun i _ => 8 - (intOf i).toNat)
 case atStart => exact ⟨0, rfl, by omega, R2.out, But.refl _ _⟩
 case round =>
  obtain ⟨j, rfl, hj, hrow, hb⟩ := hrel
  have HROW := hid hrow
  have HB := hid hb
  have hwrs : b0 + 3 ≤ wr.heap.size := by have := hb.size; omega
  by_cases hlt : j < 8
  case pos =>
   have c0 : wr.cell? ⟨b0, j, none⟩ = some (.int .u64 (wd h j)) := by
    rw [cell_of_heap ((hb.block b0 (by omega) (by omega)).trans R0.out) j, arr_get (by rw [HS16_.out.1]; omega), HWD_.out j hlt]
   have hfl : (fillS h Z8 j).length = 8 := fillS_length (by rw [HH_.out.1]; omega) (by show j ≤ 8; omega)
   have c1 : wr.cell? ⟨b0 + 1 + 1, j, none⟩ = some (.int .u32 (wd (fillS h Z8 j) j)) := by rw [cell_of_heap hrow j, arr_get (by omega)]
   have f1 := frozen_of_row wr (b0 + 1 + 1) j _ _ hrow
   have hst := heap_setCell_same wr (b0 + 1 + 1) j _ _ (.int .u32 (wd h j)) hrow
   rw [arrV_set, fillS_set (by rw [HH_.out.1]; omega) (by show j < 8; omega)] at hst
   have hbd := wd_bounds HH_.out hlt
   have hcv : IntKind.u32.wrap (wd h j) = wd h j := by rw [IntKind.wrap_u32]; exact Int.emod_eq_of_lt hbd.1 hbd.2
   have HST := hid hst
   have hjj : (j : Int) < 8 := by omega
   generalize wd (fillS h Z8 j) j = zo at c1
   generalize wd h j = zj at *
   obtain ⟨hbd1, hbd2⟩ := hbd
   clear hst hfl hrow hb
   go_wp2
   exact ⟨⟨j + 1, rfl, by omega, HST.out, HB.out.set _ _⟩, by simp [intOf]; omega⟩
  obtain rfl : j = 8 := by omega
  rw [show fillS h Z8 8 = h by unfold fillS; rw [List.take_of_length_le (by rw [HH_.out.1]; omega)]; simp [Z8]] at HROW
  have hh8 := HHB_.out.mono_below' (HB3.out.trans (hb.below (by omega) (by omega))) (by omega)
  have HH8 := hid hh8
  clear hrow hb hh8 hj hlt
  go_wp2_with fail
  refine (refWords32_ok bs v _ HH8.out HZ_.out HL_.out).mono ?_; rintro e w1 ⟨rfl, hb1⟩
  rw [HM_.out]
  have hs1 := hb1.size
  have k0 := rowStay ((HB.out.block b0 (by omega) (by omega)).trans R0.out) hb1
  have k1 := rowStay ((HB.out.block (b0 + 1) (by omega) (by omega)).trans R1.out) hb1
  have k2 := rowStay HROW.out hb1
  have hbw : Below b0 w w1 := (HB3.out.trans (HB.out.below (by omega) (by omega))).trans (hb1.mono (by omega))
  have K0 := hid k0
  have K1 := hid k1
  have K2 := hid k2
  have HBW := hid hbw
  clear k0 k1 k2 hbw hb1 HB HROW R0 R1 R2 HB3 HH8
  go_upto_region 20 with ((with_reducible show wpList _ _ _ (Oper.mk none (Op.store 263 _ _) _ _ _ _ :: _) _ _); refine wpList_store_row rfl 263 _ _ rfl w1.heap.size (arrV .u32 M) rfl rfl 263 _ (World.alloc_heap_new _ _) (by rw [arrV_size, HMW_.out.1]; kernel_rfl) (by rw [arrV_size, HMW_.out.1]; rfl) arrV_all ?_)
  refine letterW ?_
  intro W hW
  obtain ⟨bv, hbv⟩ : ∃ bv, w1.heap.size = bv := ⟨_, rfl⟩
  have g0 : W.heap[b0]? = some (.cells (arrV .u64 (st16 h)) 212 (0, 0)) := by rw [hW]; exact (setRow_other (w1.alloc _) _ _ _ (by omega)).trans ((Below.heap_alloc _ _ _ (by omega)).trans K0.out)
  have g1 : W.heap[b0 + 1]? = some (.cells #[.int .u64 0, .int .u64 0, .int .u64 0, .int .u64 0, .int .u64 0, .int .u64 0, .int .u64 0, .int .u64 0, .int .u64 0, .int .u64 0, .int .u64 0, .int .u64 0, .int .u64 0, .int .u64 0, .int .u64 0, .int .u64 0] 212 (0, 0)) := by rw [hW]; exact (setRow_other (w1.alloc _) _ _ _ (by omega)).trans ((Below.heap_alloc _ _ _ (by omega)).trans K1.out)
  have g2 : W.heap[b0 + 1 + 1]? = some (.cells (arrV .u32 h) 249 (0, 0)) := by rw [hW]; exact (setRow_other (w1.alloc _) _ _ _ (by omega)).trans ((Below.heap_alloc _ _ _ (by omega)).trans K2.out)
  have g3 : W.heap[bv]? = some (.cells (arrV .u32 M) 263 (0, 0)) := by rw [hW, ← hbv]; exact setRow_heap _ _ _ _ _ _ (World.alloc_heap_new _ _)
  have hB2 : Below b0 w W := by rw [hW]; exact below_setRow (HBW.out.alloc (by omega) _) (by omega) _
  rw [hbv]
  have hbvb : b0 + 3 ≤ bv := by omega
  clear hW hbv K0 K1 K2 HBW hs1 hwrs
  go_wp2_with (first | ((with_reducible show wpList _ _ _ (Oper.mk (some 73) _ _ _ _ _ :: _) _ _); refine wpList_load_row rfl 249 _ rfl (b0 + 1 + 1) rfl _ _ _ _ g2 Tryz.underlying249 rfl (by rw [arrV_size, HH_.out.1]; kernel_rfl) ?_) | ((with_reducible show wpList _ _ _ (Oper.mk (some 74) _ _ _ _ _ :: _) _ _); refine wpList_load_row rfl 263 _ rfl bv rfl _ _ _ _ g3 Tryz.underlying263 rfl (by rw [arrV_size, HMW_.out.1]; kernel_rfl) ?_))
  refine (refF32 h M HH_.out HMW_.out (lo : Nat) (by omega) (by have := HLO_.out; omega) last node _).mono ?_; rintro e w2 ⟨rfl, hb2⟩
  rw [HR2_.out]
  have hs2 := hb2.size
  have hWs := (Array.getElem?_eq_some_iff.1 g3).1
  have j0 := rowStay g0 hb2
  have j1 := rowStay g1 hb2
  have j2 := rowStay g2 hb2
  have hB3 : Below b0 w w2 := hB2.trans (hb2.mono (by omega))
  clear g0 g1 g2 g3 hB2 hb2
  go_upto_region 21 with ((with_reducible show wpList _ _ _ (Oper.mk none (Op.store 249 _ _) _ _ _ _ :: _) _ _); refine wpList_store_row rfl 249 _ _ rfl (b0 + 1 + 1) (arrV .u32 R) rfl rfl 249 _ j2 (by rw [arrV_size, HRW_.out.1]; kernel_rfl) (by rw [arrV_size, arrV_size, HRW_.out.1, HH_.out.1]) arrV_all ?_)
  refine letterW ?_
  intro W7 hW7
  have m0 : W7.heap[b0]? = some (.cells (arrV .u64 (fillS R (st16 h) 0)) 212 (0, 0)) := by rw [hW7]; exact (setRow_other w2 _ _ _ (by omega)).trans j0
  have m1 : W7.heap[b0 + 1]? = some (.cells #[.int .u64 0, .int .u64 0, .int .u64 0, .int .u64 0, .int .u64 0, .int .u64 0, .int .u64 0, .int .u64 0, .int .u64 0, .int .u64 0, .int .u64 0, .int .u64 0, .int .u64 0, .int .u64 0, .int .u64 0, .int .u64 0] 212 (0, 0)) := by rw [hW7]; exact (setRow_other w2 _ _ _ (by omega)).trans j1
  have m2 : W7.heap[b0 + 1 + 1]? = some (.cells (arrV .u32 R) 249 (0, 0)) := by rw [hW7]; exact setRow_heap _ _ _ _ _ _ j2
  have hB7 : Below b0 w W7 := by rw [hW7]; exact below_setRow hB3 (by omega) _
  have hs7 : b0 + 3 ≤ W7.heap.size := by rw [hW7, setRow_size]; omega
  have M0 := hid m0
  have M1 := hid m1
  have M2 := hid m2
  have HB7 := hid hB7
  clear hW7 m0 m1 m2 hB7 j0 j1 j2 hB3 hs2 hWs hbvb
  go_wp2_with fail
  go_loopw [24] (fun i wr => ∃ j : Nat, i = .int .i64 (j : Nat) ∧ j ≤ 8 ∧ wr.heap[b0]? = some (.cells (arrV .u64 (fillS R (st16 h) j)) 212 (0, 0)) ∧ But b0 W7 wr) (fun i _ => 8 - (intOf i).toNat)
  case atStart => exact ⟨0, rfl, by omega, M0.out, But.refl _ _⟩
  case round =>
   obtain ⟨j, rfl, hj, hrow, hb⟩ := hrel
   have HROW := hid hrow
   have HB := hid hb
   have hwrs : b0 + 3 ≤ wr.heap.size := by have := hb.size; omega
   have h16 : (st16 h).length = 16 := HS16_.out.1
   by_cases hlt : j < 8
   case pos =>
    have c0 : wr.cell? ⟨b0 + 1 + 1, j, none⟩ = some (.int .u32 (wd R j)) := by rw [cell_of_heap ((hb.block (b0 + 1 + 1) (by omega) (by omega)).trans M2.out) j, arr_get (by rw [HRW_.out.1]; omega)]
    have hfl : (fillS R (st16 h) j).length = 16 := by rw [fillS_length (by rw [HRW_.out.1]; omega) (by omega), h16]
    have c1 : wr.cell? ⟨b0, j, none⟩ = some (.int .u64 (wd (fillS R (st16 h) j) j)) := by rw [cell_of_heap hrow j, arr_get (by omega)]
    have f1 := frozen_of_row wr b0 j _ _ hrow
    have hst := heap_setCell_same wr b0 j _ _ (.int .u64 (wd R j)) hrow
    rw [arrV_set, fillS_set (by rw [HRW_.out.1]; omega) (by omega)] at hst
    have hbd := wd_bounds HRW_.out hlt
    have hcv : IntKind.u64.wrap (wd R j) = wd R j := u64_wrap_id _ hbd.1 (by have := hbd.2; simp at this; omega)
    have HST := hid hst
    have hjj : (j : Int) < 8 := by omega
    generalize wd (fillS R (st16 h) j) j = zo at c1
    generalize wd R j = zj at *
    obtain ⟨hbd1, hbd2⟩ := hbd
    clear hst hfl hrow hb h16
    go_wp2
    exact ⟨⟨j + 1, rfl, by omega, HST.out, HB.out.set _ _⟩, by simp [intOf]; omega⟩
   obtain rfl : j = 8 := by omega
   rw [fill_all HRW_.out.1 HH_.out.1] at hrow
   have n1 := (hb.block (b0 + 1) (by omega) (by omega)).trans M1.out
   have hb9 : Below b0 w wr := HB7.out.trans (hb.below (Nat.le_refl _) (by omega))
   have hR16 := st16_words (by decide) HRW_.out
   clear hb h16 hj hlt HROW
   go_wp2_with (first | ((with_reducible show wpList _ _ _ (Oper.mk (some 89) _ _ _ _ _ :: _) _ _); refine wpList_load_row rfl 212 _ rfl b0 rfl _ _ _ _ hrow Tryz.underlying212 rfl (by rw [arrV_size, hR16.1]; kernel_rfl) ?_) | ((with_reducible show wpList _ _ _ (Oper.mk none (Op.store 212 _ _) _ _ _ _ :: _) _ _); refine wpList_store_row rfl 212 _ _ rfl (b0 + 1) (arrV .u64 (st16 R)) rfl rfl 212 _ n1 (by rw [arrV_size, hR16.1]; kernel_rfl) (by rw [arrV_size, hR16.1]; rfl) arrV_all ?_))
   exact bodyPost_ret (results_cell_row rfl _ _ (b0 + 1) 212 _ _ _ rfl (setRow_heap _ _ _ _ _ _ n1) Tryz.underlying212 rfl (by rw [arrV_size, hR16.1]; kernel_rfl)) rfl ⟨rfl, by rw [hb0]; exact below_setRow hb9 (by omega) _⟩
end Go.Proofs.YtchepcilkcdemaaGreat
