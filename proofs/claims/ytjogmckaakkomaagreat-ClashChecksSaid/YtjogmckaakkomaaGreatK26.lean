/- Slices of bytes that are handed on; the count; a block filled up. No condition. -/
import Derived.Test.YtjogmckaakkomaaGreatK24
import Derived.Test.YtjogmckaakkomaaGreatK25
import Derived.Laws.Externs
namespace Go.Proofs.YtjogmckaakkomaaGreat
open Go.ChangeShapes Go.WideShapes Go.ChangeAt Go.RowKit Go.Joins Go.Shelf Go.Maps
attribute [local go_sem] Oper.semAt_some

/-- A slice of bytes, whole: nil or not. -/
def Hold (w : World) (v : Value) (zs : List Int) : Prop :=
 (∀ z ∈ zs, 0 ≤ z ∧ z ≤ 255) ∧ ((zs = [] ∧ v = .slice none 0 0) ∨ ∃ ad cap, v = .slice (some ad) zs.length cap ∧ zs.length ≤ cap ∧ cap ≤ maxLen ∧ (zs = [] ∨ ∃ b off, ad = ⟨b, off, none⟩ ∧ BytesAt w b off zs))
theorem Hold.nil (w : World) : Hold w (.slice none 0 0) [] := ⟨(fun _ h => by cases h), .inl ⟨rfl, rfl⟩⟩
theorem Hold.holds8 {w : World} {v : Value} {zs : List Int} (h : Hold w v zs) : Holds8 w v zs := by
 rcases h.2 with ⟨rfl, rfl⟩ | ⟨ad, cap, rfl, h1, h2, h3⟩
 ·exact ⟨none, 0, rfl, .inl rfl⟩
 ·refine ⟨some ad, cap, rfl, ?_⟩
  rcases h3 with h3 | ⟨b, off, rfl, h3⟩
  ·exact .inl h3
  ·exact .inr ⟨b, off, rfl, h3⟩
theorem Hold.slice {w : World} {v : Value} {zs : List Int} (h : Hold w v zs) : ∃ a cap, v = .slice a zs.length cap ∧ zs.length ≤ cap ∧ (cap : Int) ≤ 9223372036854775807 := by
 rcases h.2 with ⟨rfl, rfl⟩ | ⟨ad, cap, rfl, h1, h2, h3⟩
 ·exact ⟨none, 0, rfl, Nat.le_refl _, by omega⟩
 ·exact ⟨some ad, cap, rfl, h1, by unfold maxLen at h2; omega⟩
theorem Hold.src {w : World} {v : Value} {zs : List Int} (h : Hold w v zs) : SrcIs w v zs.length (zs.map encB) := by
 rcases h.2 with ⟨rfl, rfl⟩ | ⟨ad, cap, rfl, h1, h2, h3⟩
 ·exact ⟨rfl, by simp, .inl ⟨rfl, rfl⟩⟩
 ·refine ⟨by simp, encB_one, .inr ⟨ad, cap, rfl, ?_⟩⟩
  rcases h3 with rfl | ⟨b, off, rfl, h3⟩
  ·intro j u hj; simp at hj
  ·intro j u hj
   obtain ⟨hj1, rfl⟩ := List.getElem?_eq_some_iff.1 hj
   simp at hj1
   rw [Go.WideShapes.add_plain, h3.2 j hj1]
   simp [encB, nthz, List.getD_eq_getElem?_getD, hj1]
/-- As long as its block stays. -/
theorem Hold.keep {w w' : World} {v : Value} {zs : List Int} (h : Hold w v zs) (hs : w.heap.size ≤ w'.heap.size) (hk : ∀ b, v.ownBlock = some b → b < w.heap.size → w'.heap[b]? = w.heap[b]?) : Hold w' v zs := by
 refine ⟨h.1, ?_⟩
 rcases h.2 with h2 | ⟨ad, cap, rfl, h1, h2, h3⟩
 ·exact .inl h2
 ·refine .inr ⟨ad, cap, rfl, h1, h2, ?_⟩
  rcases h3 with h3 | ⟨b, off, rfl, h3, h4⟩
  ·exact .inl h3
  ·refine .inr ⟨b, off, rfl, Nat.lt_of_lt_of_le h3 hs, fun i hi => ?_⟩
   rw [← h4 i hi]
   exact World.cell?_of_block (hk b rfl h3)
theorem Hold.below {w w' : World} {v : Value} {zs : List Int} (h : Hold w v zs) (hb : Below w.heap.size w w') : Hold w' v zs := h.keep hb.size fun b _ hlt => hb.block b hlt
theorem hold_of_own {W : World} {base : Nat} {v : Value} {n : Nat} {zs : List Int} (h : W.ownsRow base 5 1 v n (zs.map encB)) (hz : ∀ z ∈ zs, 0 ≤ z ∧ z ≤ 255) : Hold W v zs := by
 have hl : zs.length = n := by have := h.1; simpa using this
 refine ⟨hz, ?_⟩
 rcases h.2 with ⟨rfl, h0⟩ | ⟨g, cap, cur, rfl, h1, h2, h3, h4, h5, h6⟩
 ·exact .inl ⟨List.eq_nil_of_length_eq_zero (by omega), rfl⟩
 ·refine .inr ⟨⟨g, 0, none⟩, cap, by rw [hl], by omega, h4, ?_⟩
  obtain ⟨a, c, e, hh⟩ := own_holds8 h
  rcases hh with hh | ⟨b, off, hb, hB⟩
  ·exact .inl hh
  ·rw [hb] at e
   simp only [Value.slice.injEq, Option.some.injEq, Addr.mk.injEq, and_true] at e
   obtain ⟨⟨rfl, rfl⟩, -, -⟩ := e
   exact .inr ⟨_, _, rfl, hB⟩
theorem add64_run (x y c : Nat) (hx : x < 18446744073709551616) (hy : y < 18446744073709551616) (hc : c ≤ 1) (w : World) :
  (callFunc 177 #[.int .u64 (x : Nat), .int .u64 (y : Nat), .int .u64 (c : Nat)]).run Tryz.prog w =
   .ok (.value (.tuple #[.int .u64 (((x + y + c) % 18446744073709551616 : Nat) : Int), .int .u64 (((x + y + c) / 18446744073709551616 : Nat) : Int)])) w := by
 rw [run_callFunc_extern Tryz.func177 (by kernel_rfl) (by kernel_rfl) (by kernel_rfl) (e := add64Entry) (by kernel_rfl), run_add64 x y c (by omega) (by omega) (by omega) (by omega)]
 simp only [Result.andThen]
 congr 5 <;> omega
set_option maxRecDepth 100000 in
theorem add_ok (lo n : Nat) (h : lo + n < 9223372036854775808) (w : World) :
  Calls Tryz.prog 176 #[.agg #[.int .u64 (lo : Nat), .int .u64 0], .int .u64 (n : Nat)] w fun e w' => e = .returned (.tuple #[.agg #[.int .u64 ((lo + n : Nat) : Int), .int .u64 0], .bool false]) ∧ Below w.heap.size w w' := by
 have h1 := add64_run lo n 0 (by omega) (by omega) (by omega)
 have h2 := add64_run 0 0 0 (by omega) (by omega) (by omega)
 rw [show (lo + n + 0) % 18446744073709551616 = lo + n by omega, show (lo + n + 0) / 18446744073709551616 = 0 by omega] at h1
 rw [show (0 + 0 + 0) % 18446744073709551616 = 0 by omega, show (0 + 0 + 0) / 18446744073709551616 = 0 by omega] at h2
 simp only [Int.natCast_zero] at h1 h2
 obtain ⟨s, hs⟩ : ∃ s, lo + n = s := ⟨_, rfl⟩
 rw [hs] at h1 ⊢
 clear hs h
 go_enter Tryz.func176, Tryz.ntmps176
 go_wp2_with (simp only [h1, h2])
 exact bodyPost_ret (v := .tuple #[.agg #[.int .u64 (s : Nat), .int .u64 0], .bool false]) (by simp [results, Tryz.results176, go_sem]) rfl ⟨rfl, ((Below.refl _ _).alloc (Nat.le_refl _) _).alloc (by simp) _⟩
set_option maxRecDepth 100000 in
theorem blockOf_ok (big : Bool) (w : World) : Calls Tryz.prog 63 #[.int .i64 (kB big)] w fun e w' => e = .returned (.int .i64 (bB big : Nat)) ∧ w' = w := by
 cases big <;>
 ·simp only [kB, bB, cond]
  go_enter Tryz.func63, Tryz.ntmps63
  go_wp2
  go_ret
  exact ⟨rfl, rfl⟩
set_option maxRecDepth 100000 in
theorem refBlock_ok (big : Bool) (w : World) : Calls Tryz.prog 92 #[.int .i64 (kB big)] w fun e w' => e = .returned (.int .i64 (bB big : Nat)) ∧ w' = w := by
 cases big <;>
 ·simp only [kB, bB, cond]
  go_enter Tryz.func92, Tryz.ntmps92
  go_wp2
  go_ret
  exact ⟨rfl, rfl⟩
set_option maxRecDepth 100000 in
theorem padded_ok (zs : List Int) (v : Value) (n : Nat) (w : World) (h : Hold w v zs) (hl : zs.length ≤ n) (hn : 1 ≤ n ∧ n ≤ 65535) :
  Calls Tryz.prog 79 #[v, .int .i64 (n : Nat)] w fun e w' => ∃ v', e = .returned v' ∧ w'.ownsRow w.heap.size 5 1 v' n ((padZ n zs).map encB) ∧ Below w.heap.size w w' := by
 obtain ⟨i0, hi, hz0, hz1, hz2⟩ := info_parts info_u8
 have hsrc := h.src
 obtain ⟨a, cap, rfl, hc1, hc2⟩ := h.slice
 have hmk : ∀ W : World, (Instr.makeSlice 23 (.int .i64 0) (.int .i64 (n : Nat))).run Tryz.prog W = .ok (.slice (some ⟨W.heap.size, 0, none⟩) 0 n) (W.alloc (.cells (madeCells #[.int .u8 0] n) 5)) := by
  intro W
  have := run_make (P := Tryz.prog) W 23 5 i0 (.int .u8 0) Tryz.underlying23 hi hz0 .i64 .i64 0 n (by omega) (by omega) (by rw [hz2]; omega) (by omega)
  simpa [hz1, show (Value.int .u8 0).cells = #[.int .u8 0] from rfl] using this
 have hown : (w.alloc (.cells (madeCells #[.int .u8 0] n) 5)).ownsRow w.heap.size 5 1 (.slice (some ⟨w.heap.size, 0, none⟩) 0 n) 0 [] := by
  refine ⟨rfl, .inr ⟨w.heap.size, n, _, rfl, Nat.le_refl _, World.alloc_heap_new _ _, Nat.zero_le _, by unfold maxLen; omega, by simp [madeCells], rfl⟩⟩
 have hb1 : Below w.heap.size w (w.alloc (.cells (madeCells #[.int .u8 0] n) 5)) := (Below.refl _ _).alloc (Nat.le_refl _) _
 have hsrc1 := hsrc.below hb1
 clear h hsrc
 go_enter Tryz.func79, Tryz.ntmps79
 obtain ⟨m, hm⟩ : ∃ m, n - zs.length = m := ⟨_, rfl⟩
 have hk1 : (n : Int) - (zs.length : Int) = (m : Int) := by omega
 have hm2 : m ≤ 65535 := by omega
 have K1 := Lib.hid hk1
 have HM := Lib.hid hm
 have hm1 : zs.length + m = n := by omega
 have HM1 := Lib.hid hm1
 obtain ⟨b0, hb0⟩ : ∃ b0, w.heap.size = b0 := ⟨_, rfl⟩
 rw [hb0] at hown hb1
 clear hk1 hm hm1
 go_wp2_with (first | ((with_reducible show wpList _ _ _ (Oper.mk (some 8) _ _ _ _ _ :: _) _ _); refine wpList_append_fits rfl _ _ _ rfl b0 5 i0 Tryz.underlying23 hi hz1 b0 0 n [] (by rw [← hb0]; rfl) hown _ zs.length _ rfl hsrc1 (by omega) ?_; intro w2 hown2 hgr2; obtain ⟨cur, hg2, hcs, htk, -⟩ := own_row hown2) | ((with_reducible show wpList _ _ _ (Oper.mk (some 13) _ _ _ _ _ :: _) _ _); refine wpList_append_zeros rfl _ _ _ _ rfl 5 .i64 i0 (.int .u8 0) Tryz.underlying23 Tryz.underlying3 hi hz0 hz1 rfl b0 zs.length n m cur rfl (by rw [← K1.out]; rfl) hg2 (by rw [HM1.out]; exact Nat.le_refl _) (by rw [HM1.out, hcs]; exact Nat.le_refl _) (by omega) (by rw [hz2]; omega) rfl ?_))
 go_ret
 rw [HM1.out]
 have hp : padZ n zs = zs ++ List.replicate m 0 := by rw [← HM.out]; rfl
 have hcur : cur.toList.take zs.length = zs.map encB := by simpa using htk
 have hcn : cur.toList.drop n = [] := List.drop_of_length_le (by simp [hcs])
 refine ⟨_, rfl, ⟨by rw [hp]; simp [HM1.out], .inr ⟨b0, n, _, rfl, by omega, setRow_heap _ _ _ _ _ _ hg2, Nat.le_refl _, by unfold maxLen; omega, ?_, ?_⟩⟩, ?_⟩
 ·have hl1 := congrArg List.length hcur
  simp at hl1
  simp [hcs, HM1.out]; have := HM1.out; omega
 ·rw [hp, hcur, hcn]
  simp only [List.append_nil, List.map_append, List.map_replicate]
  exact List.take_of_length_le (by simp [HM1.out])
 ·rw [hb0]
  exact below_setRow (hb1.grown hgr2 (by simp [hb0]) (fun k e => by cases e; exact Nat.le_refl _)) (Nat.le_refl _) _
end Go.Proofs.YtjogmckaakkomaaGreat
