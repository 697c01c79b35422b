/- The reference's tables of the rounds. No condition. -/
import Derived.Test.YtjogmckaakkomaaGreatK13
import Derived.Laws.Strings
namespace Go.Proofs.YtjogmckaakkomaaGreat
open Go.ChangeShapes Go.WideShapes Go.ChangeAt Go.RowKit Go.Joins
attribute [local go_sem] Oper.semAt_some

set_option maxRecDepth 100000 in
theorem refIV_any (i : Nat) (hi : i < 8) (w : World) : Calls Tryz.prog 135 #[.int .i64 i] w fun e w' => e = .returned (.int .u64 (wd IVb i)) ∧ Below w.heap.size w w' := by
 rcases (show i = 0 ∨ i = 1 ∨ i = 2 ∨ i = 3 ∨ i = 4 ∨ i = 5 ∨ i = 6 ∨ i = 7 by omega) with rfl | rfl | rfl | rfl | rfl | rfl | rfl | rfl
 ·go_enter Tryz.func135, Tryz.ntmps135
  go_wp2
  go_ret
  exact ⟨rfl, (Below.refl _ _).alloc (Nat.le_refl _) _⟩
 ·go_enter Tryz.func135, Tryz.ntmps135
  go_wp2
  go_ret
  exact ⟨rfl, (Below.refl _ _).alloc (Nat.le_refl _) _⟩
 ·go_enter Tryz.func135, Tryz.ntmps135
  go_wp2
  go_ret
  exact ⟨rfl, (Below.refl _ _).alloc (Nat.le_refl _) _⟩
 ·go_enter Tryz.func135, Tryz.ntmps135
  go_wp2
  go_ret
  exact ⟨rfl, (Below.refl _ _).alloc (Nat.le_refl _) _⟩
 ·go_enter Tryz.func135, Tryz.ntmps135
  go_wp2
  go_ret
  exact ⟨rfl, (Below.refl _ _).alloc (Nat.le_refl _) _⟩
 ·go_enter Tryz.func135, Tryz.ntmps135
  go_wp2
  go_ret
  exact ⟨rfl, (Below.refl _ _).alloc (Nat.le_refl _) _⟩
 ·go_enter Tryz.func135, Tryz.ntmps135
  go_wp2
  go_ret
  exact ⟨rfl, (Below.refl _ _).alloc (Nat.le_refl _) _⟩
 ·go_enter Tryz.func135, Tryz.ntmps135
  go_wp2
  go_ret
  exact ⟨rfl, (Below.refl _ _).alloc (Nat.le_refl _) _⟩
set_option maxRecDepth 100000 in
theorem place_ok (a : Nat) (ha : a < 16) (w : World) : Calls Tryz.prog 147 #[.int .i64 a] w fun e w' => e = .returned (.bool true) ∧ w' = w := by
 have h1 : (0 : Int) ≤ a := by omega
 have h2 : (a : Int) ≤ 15 := by omega
 go_enter Tryz.func147, Tryz.ntmps147
 go_wp2
 go_ret
 exact ⟨rfl, rfl⟩
/-- A digit's letter. -/
def chrD (n : Nat) : Nat := if n < 10 then 48 + n else 87 + n
set_option maxRecDepth 100000 in
theorem digit_ok (n : Nat) (hn : n < 16) (w : World) : Calls Tryz.prog 149 #[.int .u8 (chrD n : Nat)] w fun e w' => e = .returned (.int .i64 n) ∧ w' = w := by
 by_cases h : n < 10
 ·have H1 := Lib.hid (ret_u (k := .i64) (show 48 + (n : Int) - 48 = n by omega))
  rw [show chrD n = 48 + n by unfold chrD; rw [if_pos h]]
  go_enter Tryz.func149, Tryz.ntmps149
  go_wp2
  go_ret
  exact ⟨H1.out, rfl⟩
 ·have H1 := Lib.hid (ret_u (k := .i64) (show 87 + (n : Int) - 97 + 10 = n by omega))
  rw [show chrD n = 87 + n by unfold chrD; rw [if_neg h]]
  go_enter Tryz.func149, Tryz.ntmps149
  go_wp2
  go_ret
  exact ⟨H1.out, rfl⟩
def okTab (s : ByteArray) : Bool := (List.range 160).all fun k => match s.data[k]? with | some b => b.toNat == chrD (sigT.flatten.getD k 0) | none => false
theorem digit_at (s : ByteArray) (r p i : Nat) (hp : p < 10) (hi : i < 16) (hr : r % 10 = p) (h : 16 * p + i < s.size) (hs : okTab s = true) (w : World) :
  Calls Tryz.prog 149 #[.int .u8 ((s[16 * p + i]'h).toNat : Nat)] w fun e w' => e = .returned (.int .i64 (sigN r i : Nat)) ∧ w' = w := by
 have h1 := List.all_eq_true.1 hs (16 * p + i) (List.mem_range.2 (by omega))
 have h2 : s.data[16 * p + i]? = some (s[16 * p + i]'h) := Array.getElem?_eq_getElem h
 rw [h2] at h1
 have h3 : ∀ p < 10, ∀ i < 16, sigT.flatten.getD (16 * p + i) 0 = (sigT.getD p []).getD i 0 := by decide +kernel
 have h4 : (s[16 * p + i]'h).toNat = chrD (sigN r i) := by
  have := beq_iff_eq.1 h1
  rw [this, h3 p hp i hi]
  unfold sigN
  rw [hr]
 rw [h4]
 exact digit_ok _ (sigN_lt r i) w
set_option maxRecDepth 100000 in
theorem refSigma_ok (r i : Nat) (hr : r < 12) (hi : i < 16) (w : World) : Calls Tryz.prog 139 #[.int .i64 r, .int .i64 i] w fun e w' => e = .returned (.int .i64 (sigN r i : Nat)) ∧ w' = w := by
 have HR := Lib.hid (mrest_any r 10 w (by decide))
 have hlt := Nat.mod_lt r (show 0 < 10 by decide)
 go_enter Tryz.func139, Tryz.ntmps139
 go_wp2_with fail
 refine HR.out.mono ?_; rintro e1 w1 ⟨rfl, rfl⟩
 obtain ⟨p, hp⟩ : ∃ p, r % 10 = p := ⟨_, rfl⟩
 rw [hp] at hlt ⊢
 have HP := Lib.hid hp
 clear hp HR
 go_wp2_with fail
 refine (digit_at _ r p i hlt hi HP.out _ (by kernel_rfl) _).mono ?_; rintro e2 w2 ⟨rfl, rfl⟩
 go_wp2
 go_ret
 exact ⟨rfl, rfl⟩
theorem plaTab_at (i j : Nat) (hi : i < 8) (hj : j < 4) : plaTab[i * 4 + j]? = some (.int .i64 ((plaR i).getD j 0 : Nat)) := by
 have h : ∀ i < 8, ∀ j < 4, ((List.range 8).flatMap plaR)[i * 4 + j]? = some ((plaR i).getD j 0) := by decide +kernel
 unfold plaTab natV
 rw [List.getElem?_toArray, List.getElem?_map, h i hi j hj]
 rfl
set_option maxRecDepth 100000 in
theorem refPlaces_ok (i : Nat) (hi : i < 8) (w : World) : Calls Tryz.prog 137 #[.int .i64 i] w fun e w' => e = .returned (.agg #[.int .i64 (plA i : Nat), .int .i64 (plB i : Nat), .int .i64 (plC i : Nat), .int .i64 (plD i : Nat)]) ∧ Below w.heap.size w w' := by
 obtain ⟨b0, hb0⟩ : ∃ b0, w.heap.size = b0 := ⟨_, rfl⟩
 go_enter Tryz.func137, Tryz.ntmps137
 go_upto_region 1 with (fail)
 apply wp_region_lit
 refine wpList_buildTo rfl 211 _ rfl (some 4) rfl (natV (plaR 0)) (by kernel_rfl) ?_
 simp only [Act.put, List.setIfInBounds_toArray, List.set_cons_zero, List.set_cons_succ]
 refine wpList_buildTo rfl 211 _ rfl (some 5) rfl (natV (plaR 1)) (by kernel_rfl) ?_
 simp only [Act.put, List.setIfInBounds_toArray, List.set_cons_zero, List.set_cons_succ]
 refine wpList_buildTo rfl 211 _ rfl (some 6) rfl (natV (plaR 2)) (by kernel_rfl) ?_
 simp only [Act.put, List.setIfInBounds_toArray, List.set_cons_zero, List.set_cons_succ]
 refine wpList_buildTo rfl 211 _ rfl (some 7) rfl (natV (plaR 3)) (by kernel_rfl) ?_
 simp only [Act.put, List.setIfInBounds_toArray, List.set_cons_zero, List.set_cons_succ]
 refine wpList_buildTo rfl 211 _ rfl (some 8) rfl (natV (plaR 4)) (by kernel_rfl) ?_
 simp only [Act.put, List.setIfInBounds_toArray, List.set_cons_zero, List.set_cons_succ]
 refine wpList_buildTo rfl 211 _ rfl (some 9) rfl (natV (plaR 5)) (by kernel_rfl) ?_
 simp only [Act.put, List.setIfInBounds_toArray, List.set_cons_zero, List.set_cons_succ]
 refine wpList_buildTo rfl 211 _ rfl (some 10) rfl (natV (plaR 6)) (by kernel_rfl) ?_
 simp only [Act.put, List.setIfInBounds_toArray, List.set_cons_zero, List.set_cons_succ]
 refine wpList_buildTo rfl 211 _ rfl (some 11) rfl (natV (plaR 7)) (by kernel_rfl) ?_
 simp only [Act.put, List.setIfInBounds_toArray, List.set_cons_zero, List.set_cons_succ]
 refine wpList_buildTo rfl 220 _ rfl (some 12) rfl plaTab (by kernel_rfl) ?_
 simp only [Act.put, List.setIfInBounds_toArray, List.set_cons_zero, List.set_cons_succ]
 refine wpList_plain rfl fun _ hK => ?_
 go_simp
 refine hK _ _ ?_
 clear hK
 refine wpList_store_row rfl 220 _ _ rfl (b0 + 1) plaTab rfl rfl 220 _ (World.alloc_new_at _ _ (by simp; omega)) (by kernel_rfl) (by kernel_rfl) (by kernel_rfl) ?_
 simp only [Act.put, List.setIfInBounds_toArray, List.set_cons_zero, List.set_cons_succ]
 go_upto_region 2 with (fail)
 refine letterW ?_
 intro W hW
 have hT : W.heap[b0 + 1]? = some (.cells plaTab 220 (0, 0)) := by
  rw [hW]; exact setRow_heap _ _ _ _ _ _ (World.alloc_new_at _ _ (by simp; omega))
 have hR : W.heap[b0]? = some (.cells #[.int .i64 0, .int .i64 0, .int .i64 0, .int .i64 0] 211 (0, 0)) := by
  rw [hW]; exact (setRow_other _ _ _ _ (by omega)).trans ((Below.heap_alloc _ _ _ (by simp; omega)).trans (World.alloc_new_at _ _ hb0.symm))
 have HB : Below w.heap.size w W := by
  rw [hW]
  exact below_setRow (((Below.refl w.heap.size w).alloc (Nat.le_refl _) _).alloc (by simp) _) (by omega) _
 clear hW
 have hc := fun j hj => (cellOfRow hT (i * 4 + j)).trans (plaTab_at i j hi hj)
 have c0 : W.cell? ⟨b0 + 1, i * 4, none⟩ = some (.int .i64 (plA i : Nat)) := hc 0 (by decide)
 have c1 : W.cell? ⟨b0 + 1, i * 4 + 1, none⟩ = some (.int .i64 (plB i : Nat)) := hc 1 (by decide)
 have c2 : W.cell? ⟨b0 + 1, i * 4 + 2, none⟩ = some (.int .i64 (plC i : Nat)) := hc 2 (by decide)
 have c3 : W.cell? ⟨b0 + 1, i * 4 + 3, none⟩ = some (.int .i64 (plD i : Nat)) := hc 3 (by decide)
 have hE : ((i : Nat) : Int).tmod 8 = (i : Int) := by rw [Int.tmod_eq_emod_of_nonneg (by omega)]; omega
 have hltI : (i : Int) < 8 := by omega
 have HR := Lib.hid hR
 obtain ⟨cR, fR⟩ := rowFacts hR
 clear hT hc hR
 go_wp2_with fail
 have hr4 := block_setCell (i := 3) (block_setCell (i := 2) (block_setCell (i := 1) (block_setCell (i := 0) HR.out (.int .i64 (plA i : Nat))) (.int .i64 (plB i : Nat))) (.int .i64 (plC i : Nat))) (.int .i64 (plD i : Nat))
 exact bodyPost_ret (results_cell_row rfl _ _ _ _ _ _ _ rfl hr4 Tryz.underlying211 rfl rfl) rfl ⟨rfl, (((HB.setCell (by simp; omega) _).setCell (by simp; omega) _).setCell (by simp; omega) _).setCell (by simp; omega) _ |>.mono (by omega)⟩
end Go.Proofs.YtjogmckaakkomaaGreat
