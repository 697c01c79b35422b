/- Bytes without the noughts at their end, by the program and by the reference. No condition. -/
import Derived.Test.YtjogmckaakkomaaGreatK28
import Derived.Test.YtjogmckaakkomaaGreatK22
namespace Go.Proofs.YtjogmckaakkomaaGreat
open Go.ChangeShapes Go.WideShapes Go.ChangeAt Go.RowKit Go.Joins Go.Shelf Go.Maps
attribute [local go_sem] Oper.semAt_some

/-- How many are left of the first k. -/
def trimL (zs : List Int) : Nat → Nat
 | 0 => 0
 | k + 1 => if nthz zs k = 0 then trimL zs k else k + 1
theorem trimL_le (zs : List Int) : ∀ k, trimL zs k ≤ k
 | 0 => Nat.le_refl _
 | k + 1 => by
  unfold trimL
  split
  ·exact Nat.le_succ_of_le (trimL_le zs k)
  ·exact Nat.le_refl _
theorem trimL_zero (zs : List Int) : ∀ k j, trimL zs k ≤ j → j < k → nthz zs j = 0
 | 0, j, _, h => by omega
 | k + 1, j, h1, h2 => by
  unfold trimL at h1
  split at h1
  ·rename_i h
   by_cases e : j = k
   ·rw [e]; exact h
   ·exact trimL_zero zs k j h1 (by omega)
  ·omega
theorem src_take {w : World} {b off n cap : Nat} {zs : List Int} (h : BytesAt w b off zs) (hn : n ≤ zs.length) : SrcIs w (.slice (some ⟨b, off, none⟩) n cap) n ((zs.take n).map encB) := by
 refine ⟨by simp; omega, ?_, .inr ⟨⟨b, off, none⟩, cap, rfl, ?_⟩⟩
 ·intro u hu
  obtain ⟨z, -, rfl⟩ := List.mem_map.1 hu
  rfl
 ·intro j u hj
  obtain ⟨hj1, rfl⟩ := List.getElem?_eq_some_iff.1 hj
  simp at hj1
  rw [Go.WideShapes.add_plain, h.2 j (by omega)]
  simp [encB, nthz, List.getD_eq_getElem?_getD, show j < zs.length by omega]
set_option maxRecDepth 100000 in
theorem trimmed_ok (zs : List Int) (b off cap : Nat) (w : World) (hB : BytesAt w b off zs) (hcap : zs.length ≤ cap) (hm : zs.length ≤ 4294967296) :
  Calls Tryz.prog 77 #[.slice (some ⟨b, off, none⟩) zs.length cap] w fun e w' => ∃ v', e = .returned v' ∧ w'.ownsRow w.heap.size 5 1 v' (trimL zs zs.length) ((zs.take (trimL zs zs.length)).map encB) ∧ Below w.heap.size w w' := by
 obtain ⟨i0, hi, hz0, hz1, hz2⟩ := info_parts info_u8
 obtain ⟨h1, h2⟩ := id hB
 have HC := Lib.hid h2
 have HB := Lib.hid hB
 clear h2 hB
 go_enter Tryz.func77, Tryz.ntmps77
 go_wp2_with fail
 go_loopw [3] (fun i wr => ∃ k : Nat, i = .int .i64 k ∧ wr = w ∧ k ≤ zs.length ∧ trimL zs k = trimL zs zs.length) (fun i _ => (intOf i).toNat)
 case atStart => exact ⟨zs.length, rfl, rfl, Nat.le_refl _, rfl⟩
 case round =>
  obtain ⟨k, rfl, rfl, hk, he0⟩ := hrel
  have HE := Lib.hid he0
  clear he0
  cases k with
  | zero =>
   have k5 : (0 : Int) ≤ cap := by omega
   have hN := trimL_le zs zs.length
   have E0 := Lib.hid (show trimL zs zs.length = 0 from HE.out.symm)
   go_wp2_with (at_builtin; refine wpList_append_now rfl _ _ _ rfl wr wr.heap.size rfl (by repeat (first | exact Below.refl _ _ | refine Below.drew ?_)) 5 i0 (.int .u8 0) 1 Tryz.underlying23 hi hz0 hz1 hz2 rfl _ 0 [] rfl (World.ownsRow_nil _ _ _ _) _ 0 _ rfl (src_take (n := 0) HB.out (by omega)) (by unfold maxLen; omega) (by omega) ?_; intro v' w2 hown' hb3)
   go_ret
   refine ⟨_, rfl, ?_, hb3⟩
   rw [E0.out]
   exact hown'
  | succ j =>
   have hc := HC.out j (by omega)
   have k1 : ((j + 1 : Nat) : Int) - 1 = (j : Nat) := by omega
   have k2 : 0 ≤ (j : Int) ∧ (j : Int) < 4294967296 := by omega
   obtain ⟨k3, k4⟩ := k2
   have k5 : (j : Int) + 1 ≤ cap := by omega
   by_cases hj : nthz zs j = 0
   ·rw [hj] at hc
    go_wp2
    exact ⟨⟨j, rfl, by trivial, by omega, by rw [← HE.out]; simp [trimL, hj]⟩, by simp [intOf]⟩
   ·have E0 := Lib.hid (show j + 1 = trimL zs zs.length by rw [← HE.out]; simp [trimL, hj])
    have q := beq_eq_false_iff_ne.2 hj
    have q2 : (nthz zs j == 0) = false := q
    generalize nthz zs j = z at hc hj q q2
    clear q hj
    go_wp2_with (at_builtin; refine wpList_append_now rfl _ _ _ rfl wr wr.heap.size rfl (by repeat (first | exact Below.refl _ _ | refine Below.drew ?_)) 5 i0 (.int .u8 0) 1 Tryz.underlying23 hi hz0 hz1 hz2 rfl _ 0 [] rfl (World.ownsRow_nil _ _ _ _) _ (j + 1) _ rfl (src_take (n := j + 1) HB.out (by omega)) (by unfold maxLen; omega) (by omega) ?_; intro v' w2 hown' hb3)
    go_ret
    refine ⟨_, rfl, ?_, hb3⟩
    rw [← E0.out]
    simpa using hown'
set_option maxRecDepth 100000 in
theorem refTrimmed_ok (zs : List Int) (b off cap : Nat) (w : World) (hB : BytesAt w b off zs) (hcap : zs.length ≤ cap) (hm : zs.length ≤ 4294967296) :
  Calls Tryz.prog 102 #[.slice (some ⟨b, off, none⟩) zs.length cap] w fun e w' => ∃ v', e = .returned v' ∧ w'.ownsRow w.heap.size 5 1 v' (trimL zs zs.length) ((zs.take (trimL zs zs.length)).map encB) ∧ Below w.heap.size w w' := by
 obtain ⟨i0, hi, hz0, hz1, hz2⟩ := info_parts info_u8
 obtain ⟨h1, h2⟩ := id hB
 have HC := Lib.hid h2
 have HB := Lib.hid hB
 obtain ⟨N, hN⟩ : ∃ N, trimL zs zs.length = N := ⟨_, rfl⟩
 have hNl := trimL_le zs zs.length
 rw [hN] at hNl ⊢
 have HN := Lib.hid hN
 clear h2 hB hN
 go_enter Tryz.func102, Tryz.ntmps102
 go_wp2_with fail
 go_loopw [3] (fun i wr => ∃ k : Nat, i = .int .i64 k ∧ w = wr ∧ k ≤ zs.length ∧ trimL zs k = N) (fun i _ => (intOf i).toNat)
 case atStart => exact ⟨zs.length, rfl, rfl, Nat.le_refl _, HN.out⟩
 case round =>
  obtain ⟨k, rfl, rfl, hk, he0⟩ := hrel
  have HE := Lib.hid he0
  clear he0
  by_cases hst : ∃ j, k = j + 1 ∧ nthz zs j = 0
  ·obtain ⟨j, rfl, hj⟩ := hst
   have hc := HC.out j (by omega)
   have k1 : ((j + 1 : Nat) : Int) - 1 = (j : Nat) := by omega
   have k3 : 0 ≤ (j : Int) := by omega
   have k4 : (j : Int) < 4294967296 := by omega
   rw [hj] at hc
   go_wp2
   exact ⟨⟨j, rfl, by trivial, by omega, by rw [← HE.out]; simp [trimL, hj]⟩, by simp [intOf]⟩
  ·have ek : k = N := by
    rw [← HE.out]
    cases k with
    | zero => rfl
    | succ j => simp only [trimL]; rw [if_neg (fun h => hst ⟨j, rfl, h⟩)]
   have hgo : k = 0 ∨ ∃ j z, k = j + 1 ∧ w.cell? ⟨b, off + j, none⟩ = some (.int .u8 z) ∧ (z == 0) = false := by
    cases k with
    | zero => exact .inl rfl
    | succ j => exact .inr ⟨j, nthz zs j, rfl, HC.out j (by omega), beq_eq_false_iff_ne.2 (fun h => hst ⟨j, rfl, h⟩)⟩
   clear hst
   subst ek
   rcases hgo with hk0 | ⟨j, z, hk0, hc, hq⟩
   case inl =>
    subst hk0
    go_wp2_with fail
    go_loopw [4, 5] (fun o i W2 => ∃ (m : Nat) (v : Value), o = v ∧ i = .int .i64 m ∧ m ≤ 0 ∧ W2.ownsRow w.heap.size 5 1 v m ((zs.take m).map encB) ∧ Below w.heap.size w W2) (fun _ i _ => 0 - (intOf i).toNat)
    case atStart => exact ⟨0, _, rfl, rfl, by omega, World.ownsRow_nil _ _ _ _, Below.refl _ _⟩
    case round =>
     obtain ⟨i, v, rfl, rfl, hi2, hown, hb⟩ := hrel
     have hsr := hb.size
     by_cases hlt : i < 0
     ·exact absurd hlt (by omega)
     ·obtain rfl : i = 0 := by omega
      go_wp2
      go_ret
      exact ⟨_, rfl, hown, hb⟩
   case inr =>
    have HK := Lib.hid hk0
    have k1 : ((j + 1 : Nat) : Int) - 1 = (j : Nat) := by omega
    have k3 : 0 ≤ (j : Int) := by omega
    have k4 : (j : Int) < 4294967296 := by omega
    subst hk0
    go_wp2_with fail
    go_loopw [4, 5] (fun o i W2 => ∃ (m : Nat) (v : Value), o = v ∧ i = .int .i64 m ∧ m ≤ j + 1 ∧ W2.ownsRow w.heap.size 5 1 v m ((zs.take m).map encB) ∧ Below w.heap.size w W2) (fun _ i _ => j + 1 - (intOf i).toNat)
    case atStart => exact ⟨0, _, rfl, rfl, by omega, World.ownsRow_nil _ _ _ _, Below.refl _ _⟩
    case round =>
     clear hc hq k1 k3 k4
     obtain ⟨i, v, rfl, rfl, hi2, hown, hb⟩ := hrel
     have hsr := hb.size
     by_cases hlt : i < j + 1
     ·have hci := (hb.cell (p := ⟨b, off + i, none⟩) h1).trans (HC.out i (by omega))
      have e1 := Lib.hid (show (zs.take (i + 1)).map encB = (zs.take i).map encB ++ [.int .u8 (nthz zs i)] by
       rw [List.take_add_one, List.map_append]
       simp [nthz, List.getD_eq_getElem?_getD, show i < zs.length by omega, encB])
      generalize nthz zs i = y at hci e1
      go_wp2_with (at_builtin; refine wpList_append_own _ rfl _ _ 23 rfl w.heap.size 5 i0 (.int .u8 0) 1 1 Tryz.underlying23 hi hz0 hz1 hz2 rfl (by decide) _ _ _ rfl (hown.alloc _) ⟨wr.heap.size, 0, none⟩ 1 1 [.int .u8 y] rfl rfl (cell_one_new _ _ _) (by simp [Value.oneCell']) (by unfold maxLen; omega) (by omega) (by simp; omega) ?_; intro v' w2 hown' hgrow _; have hb3 : Below w.heap.size w w2 := (hb.alloc hsr _).grown hgrow (by simp; omega) (fun k e => (hown.lt k e).1))
      rw [← e1.out] at hown'
      exact ⟨⟨i + 1, v', rfl, rfl, by omega, hown', hb3⟩, by simp [intOf]; omega⟩
     ·obtain rfl : i = j + 1 := by omega
      go_wp2
      go_ret
      exact ⟨_, rfl, hown, hb⟩
end Go.Proofs.YtjogmckaakkomaaGreat
/- A block's length, its fields' places, by the program and by the reference. No condition. -/
namespace Go.Proofs.YtjogmckaakkomaaGreat
open Go.ChangeShapes Go.WideShapes Go.ChangeAt Go.RowKit Go.Joins Go.Shelf Go.Maps
attribute [local go_sem] Oper.semAt_some

set_option maxRecDepth 100000 in
theorem right_any (big : Bool) (a : Option Addr) (n cap : Nat) (w : World) :
  Calls Tryz.prog 55 #[.int .i64 (kB big), .slice a n cap] w fun e w' => (∃ x, e = .returned (.int .i64 x) ∧ (x = 0 ↔ n = mB big)) ∧ w' = w := by
 have hs := sizes_ok big
 cases big
 case' false =>
  change ∀ w : World, Calls Tryz.prog 56 #[.int .i64 2] w fun e w' => e = .returned (.tuple #[.int .i64 32, .int .i64 32, .int .i64 8]) ∧ w' = w at hs
  change Calls _ _ #[.int .i64 2, _] _ fun e w' => (∃ x, e = .returned (.int .i64 x) ∧ (x = 0 ↔ n = 32)) ∧ _
  obtain ⟨N, hN⟩ : ∃ N : Nat, N = 32 := ⟨_, rfl⟩
 case' true =>
  change ∀ w : World, Calls Tryz.prog 56 #[.int .i64 1] w fun e w' => e = .returned (.tuple #[.int .i64 64, .int .i64 64, .int .i64 16]) ∧ w' = w at hs
  change Calls _ _ #[.int .i64 1, _] _ fun e w' => (∃ x, e = .returned (.int .i64 x) ∧ (x = 0 ↔ n = 64)) ∧ _
  obtain ⟨N, hN⟩ : ∃ N : Nat, N = 64 := ⟨_, rfl⟩
 all_goals
  by_cases h1 : n < N
  case' neg => by_cases h2 : N < n
  all_goals
   subst hN
   go_enter Tryz.func55, Tryz.ntmps55
   go_wp2_with fail
   refine (hs _).mono ?_; rintro e w1 ⟨rfl, rfl⟩
   go_wp2_with fail
   go_ret
   exact ⟨⟨_, rfl, by omega⟩, rfl⟩
set_option maxRecDepth 100000 in
theorem sized_any (big : Bool) (a : Option Addr) (n cap : Nat) (w : World) :
  Calls Tryz.prog 80 #[.int .i64 (kB big), .slice a n cap] w fun e w' => (∃ x, e = .returned (.int .i64 x) ∧ (x = 0 ↔ n = mB big)) ∧ w' = w := by
 have hs := refMost_ok big
 have hz := refSize_ok big
 cases big
 case' false =>
  change ∀ w : World, Calls Tryz.prog 83 #[.int .i64 2] w fun e w' => e = .returned (.int .i64 32) ∧ w' = w at hs
  change ∀ w : World, Calls Tryz.prog 94 #[.int .i64 2] w fun e w' => e = .returned (.int .i64 32) ∧ w' = w at hz
  change Calls _ _ #[.int .i64 2, _] _ fun e w' => (∃ x, e = .returned (.int .i64 x) ∧ (x = 0 ↔ n = 32)) ∧ _
  obtain ⟨N, hN⟩ : ∃ N : Nat, N = 32 := ⟨_, rfl⟩
 case' true =>
  change ∀ w : World, Calls Tryz.prog 83 #[.int .i64 1] w fun e w' => e = .returned (.int .i64 64) ∧ w' = w at hs
  change ∀ w : World, Calls Tryz.prog 94 #[.int .i64 1] w fun e w' => e = .returned (.int .i64 64) ∧ w' = w at hz
  change Calls _ _ #[.int .i64 1, _] _ fun e w' => (∃ x, e = .returned (.int .i64 x) ∧ (x = 0 ↔ n = 64)) ∧ _
  obtain ⟨N, hN⟩ : ∃ N : Nat, N = 64 := ⟨_, rfl⟩
 all_goals
  by_cases h1 : n < N
  case' neg => by_cases h2 : N < n
  all_goals
   subst hN
   go_enter Tryz.func80, Tryz.ntmps80
   go_wp2_with fail
   refine (hs _).mono ?_; rintro e w1 ⟨rfl, rfl⟩
   go_wp2_with fail
   refine (hz _).mono ?_; rintro e w1 ⟨rfl, rfl⟩
   go_wp2_with fail
   try (refine (hz _).mono ?_; rintro e w1 ⟨rfl, rfl⟩; go_wp2_with fail)
   go_ret
   exact ⟨⟨_, rfl, by omega⟩, rfl⟩
/-- Where a field stands, and how many bytes it has. -/
def atB (big : Bool) : Nat → Nat
 | 1 => 0 | 2 => 1 | 3 => 2 | 4 => 3 | 5 => 4 | 6 => 8 | 7 => 12
 | 8 => cond big 16 14
 | _ => cond big 17 15
def szB (big : Bool) : Nat → Nat
 | 5 => 4
 | 6 => cond big 8 6
 | 7 => cond big 4 2
 | _ => 1
set_option maxRecDepth 100000 in
theorem fplace_ok (big : Bool) (f : Nat) (hf : 1 ≤ f ∧ f ≤ 9) (w : World) :
  Calls Tryz.prog 81 #[.int .i64 (kB big), .int .i64 f] w fun e w' => e = .returned (.tuple #[.int .i64 (atB big f : Nat), .int .i64 (szB big f : Nat)]) ∧ w' = w := by
 have h : f = 1 ∨ f = 2 ∨ f = 3 ∨ f = 4 ∨ f = 5 ∨ f = 6 ∨ f = 7 ∨ f = 8 ∨ f = 9 := by omega
 clear hf
 rcases h with rfl | rfl | rfl | rfl | rfl | rfl | rfl | rfl | rfl <;> cases big <;>
 ·simp only [kB, atB, szB, cond]
  go_enter Tryz.func81, Tryz.ntmps81
  go_wp2
  exact bodyPost_ret (results_tmp2 (fn := Tryz.f81) (t := 4) (u := 5) rfl _ _ _) rfl ⟨rfl, rfl⟩
/-- The rows in memory: each field's number, place and size. -/
def RowsIn (big : Bool) (w : World) (b : Nat) : Prop := b < w.heap.size ∧ ∀ f, 1 ≤ f → f ≤ 9 → w.cell? ⟨b, (f - 1) * 5, none⟩ = some (.int .i64 f) ∧ w.cell? ⟨b, (f - 1) * 5 + 1, none⟩ = some (.int .i64 (atB big f : Nat)) ∧ w.cell? ⟨b, (f - 1) * 5 + 2, none⟩ = some (.int .i64 (szB big f : Nat))
theorem info_row : (Tryz.prog.info? 112).map (fun i => (i.zero, i.size, i.bytes)) = some (some (.agg #[.int .i64 0, .int .i64 0, .int .i64 0, .string ⟨#[]⟩, .int .i64 0]), 5, 48) := by kernel_rfl
set_option maxRecDepth 100000 in
set_option maxHeartbeats 4000000 in
theorem rows_ok (big : Bool) (w : World) :
  Calls Tryz.prog 57 #[.int .i64 (kB big)] w fun e w' => (∃ b, e = .returned (.slice (some ⟨b, 0, none⟩) 9 9) ∧ w.heap.size ≤ b ∧ RowsIn big w' b) ∧ Below w.heap.size w w' := by
 cases hie : Tryz.prog.info? 112 with
 | none => have := info_row; rw [hie] at this; cases this
 | some ie =>
 have hi := info_row
 rw [hie] at hi
 simp only [Option.map_some, Option.some.injEq, Prod.mk.injEq] at hi
 obtain ⟨hz, hsz, -⟩ := hi
 cases big <;>
 ·simp only [kB, cond]
  go_enter Tryz.func57, Tryz.ntmps57
  go_wp2_with ((with_reducible show wpList _ _ _ (Oper.mk _ (Op.buildSlice _ _ _) _ _ _ _ :: _) _ _); refine wpList_buildSlice rfl 108 112 9 _ rfl rowCells ie _ Tryz.underlying108 hie hz (by rw [hsz]; decide) (by rw [hsz]; decide) (by rw [hsz]; rfl) ?_)
  go_ret
  refine ⟨⟨_, rfl, Nat.le_refl _, by simp, fun f h1 h2 => ?_⟩, (Below.refl _ _).alloc (Nat.le_refl _) _⟩
  have h : f = 1 ∨ f = 2 ∨ f = 3 ∨ f = 4 ∨ f = 5 ∨ f = 6 ∨ f = 7 ∨ f = 8 ∨ f = 9 := by omega
  rcases h with rfl | rfl | rfl | rfl | rfl | rfl | rfl | rfl | rfl <;> exact ⟨(cell_of_heap (World.alloc_heap_new w _) _).trans rfl, (cell_of_heap (World.alloc_heap_new w _) _).trans rfl, (cell_of_heap (World.alloc_heap_new w _) _).trans rfl⟩
end Go.Proofs.YtjogmckaakkomaaGreat
