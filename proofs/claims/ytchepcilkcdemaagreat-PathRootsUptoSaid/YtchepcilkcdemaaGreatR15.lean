/- The reference's tables of the rounds. No condition. -/
import Derived.Test.YtchepcilkcdemaaGreatR14
import Derived.Laws.Strings
import Derived.Laws.ResultCell
set_option linter.all false
set_option maxRecDepth 100000
set_option maxHeartbeats 8000000
namespace Go.Proofs.YtchepcilkcdemaaGreat
open Go.ChangeShapes Go.WideShapes Go.ChangeAt Go.RowKit Go.Joins
open Go.Lib (hid)
attribute [local go_sem] Oper.semAt_some
theorem refIV_any (i : Nat) (hi : i < 8) (w : World) : Calls Tryz.prog 194 #[.int .i64 i] w fun e w' => e = .returned (.int .u64 (wd IVb i)) ∧ Below w.heap.size w w' := by
 rcases (show i = 0 ∨ i = 1 ∨ i = 2 ∨ i = 3 ∨ i = 4 ∨ i = 5 ∨ i = 6 ∨ i = 7 by omega) with rfl | rfl | rfl | rfl | rfl | rfl | rfl | rfl
 ·go_enter Tryz.func194, Tryz.ntmps194
  go_wp2
  go_ret
  exact ⟨rfl, (Below.refl _ _).alloc (Nat.le_refl _) _⟩
 ·go_enter Tryz.func194, Tryz.ntmps194
  go_wp2
  go_ret
  exact ⟨rfl, (Below.refl _ _).alloc (Nat.le_refl _) _⟩
 ·go_enter Tryz.func194, Tryz.ntmps194
  go_wp2
  go_ret
  exact ⟨rfl, (Below.refl _ _).alloc (Nat.le_refl _) _⟩
 ·go_enter Tryz.func194, Tryz.ntmps194
  go_wp2
  go_ret
  exact ⟨rfl, (Below.refl _ _).alloc (Nat.le_refl _) _⟩
 ·go_enter Tryz.func194, Tryz.ntmps194
  go_wp2
  go_ret
  exact ⟨rfl, (Below.refl _ _).alloc (Nat.le_refl _) _⟩
 ·go_enter Tryz.func194, Tryz.ntmps194
  go_wp2
  go_ret
  exact ⟨rfl, (Below.refl _ _).alloc (Nat.le_refl _) _⟩
 ·go_enter Tryz.func194, Tryz.ntmps194
  go_wp2
  go_ret
  exact ⟨rfl, (Below.refl _ _).alloc (Nat.le_refl _) _⟩
 ·go_enter Tryz.func194, Tryz.ntmps194
  go_wp2
  go_ret
  exact ⟨rfl, (Below.refl _ _).alloc (Nat.le_refl _) _⟩
theorem place_ok (a : Nat) (ha : a < 16) (w : World) : Calls Tryz.prog 206 #[.int .i64 a] w fun e w' => e = .returned (.bool true) ∧ w' = w := by
 have h1 : (0 : Int) ≤ a := by omega
 have h2 : (a : Int) ≤ 15 := by omega
 go_enter Tryz.func206, Tryz.ntmps206
 go_wp2
 go_ret
 exact ⟨rfl, rfl⟩
/-- A digit's letter. -/
def chrD (n : Nat) : Nat := if n < 10 then 48 + n else 87 + n
theorem digit_ok (n : Nat) (hn : n < 16) (w : World) : Calls Tryz.prog 208 #[.int .u8 (chrD n : Nat)] w fun e w' => e = .returned (.int .i64 n) ∧ w' = w := by
 by_cases h : n < 10
 ·have H1 := hid (ret_u (k := .i64) (show 48 + (n : Int) - 48 = n by omega))
  rw [show chrD n = 48 + n by unfold chrD; rw [if_pos h]]
  go_enter Tryz.func208, Tryz.ntmps208
  go_wp2
  go_ret
  exact ⟨H1.out, rfl⟩
 ·have H1 := hid (ret_u (k := .i64) (show 87 + (n : Int) - 97 + 10 = n by omega))
  rw [show chrD n = 87 + n by unfold chrD; rw [if_neg h]]
  go_enter Tryz.func208, Tryz.ntmps208
  go_wp2
  go_ret
  exact ⟨H1.out, rfl⟩
def okTab (s : ByteArray) : Bool := (List.range 160).all fun k => match s.data[k]? with | some b => b.toNat == chrD (sigT.flatten.getD k 0) | none => false
theorem digit_at (s : ByteArray) (r p i : Nat) (hp : p < 10) (hi : i < 16) (hr : r % 10 = p) (h : 16 * p + i < s.size) (hs : okTab s = true) (w : World) :
  Calls Tryz.prog 208 #[.int .u8 ((s[16 * p + i]'h).toNat : Nat)] w fun e w' => e = .returned (.int .i64 (sigN r i : Nat)) ∧ w' = w := by
 have h1 := List.all_eq_true.1 hs (16 * p + i) (List.mem_range.2 (by omega))
 have h2 : s.data[16 * p + i]? = some (s[16 * p + i]'h) := Array.getElem?_eq_getElem h
 rw [h2] at h1
 have h3 : ∀ p < 10, ∀ i < 16, sigT.flatten.getD (16 * p + i) 0 = (sigT.getD p []).getD i 0 := by decide +kernel
 have h4 : (s[16 * p + i]'h).toNat = chrD (sigN r i) := by
  have := beq_iff_eq.1 h1
  rw [this, h3 p hp i hi]
  unfold sigN
  rw [hr]
 rw [h4]
 exact digit_ok _ (sigN_lt r i) w
theorem refSigma_ok (r i : Nat) (hr : r < 12) (hi : i < 16) (w : World) : Calls Tryz.prog 198 #[.int .i64 r, .int .i64 i] w fun e w' => e = .returned (.int .i64 (sigN r i : Nat)) ∧ w' = w := by
 have HR := hid (mrest_any r 10 w (by decide))
 have hlt := Nat.mod_lt r (show 0 < 10 by decide)
 go_enter Tryz.func198, Tryz.ntmps198
 go_wp2_with fail
 refine HR.out.mono ?_; rintro e1 w1 ⟨rfl, rfl⟩
 obtain ⟨p, hp⟩ : ∃ p, r % 10 = p := ⟨_, rfl⟩
 rw [hp] at hlt ⊢
 have HP := hid hp
 clear hp HR
 go_wp2_with fail
 refine (digit_at _ r p i hlt hi HP.out _ (by kernel_rfl) _).mono ?_; rintro e2 w2 ⟨rfl, rfl⟩
 go_wp2
 go_ret
 exact ⟨rfl, rfl⟩
theorem plaTab_at (i j : Nat) (hi : i < 8) (hj : j < 4) : plaTab[i * 4 + j]? = some (.int .i64 ((plaR i).getD j 0 : Nat)) := by
 have h : ∀ i < 8, ∀ j < 4, ((List.range 8).flatMap plaR)[i * 4 + j]? = some ((plaR i).getD j 0) := by decide +kernel
 unfold plaTab natV
 rw [List.getElem?_toArray, List.getElem?_map, h i hi j hj]
 rfl
theorem refPlaces_ok (i : Nat) (hi : i < 8) (w : World) : Calls Tryz.prog 196 #[.int .i64 i] w fun e w' => e = .returned (.agg #[.int .i64 (plA i : Nat), .int .i64 (plB i : Nat), .int .i64 (plC i : Nat), .int .i64 (plD i : Nat)]) ∧ Below w.heap.size w w' := by
 obtain ⟨b0, hb0⟩ : ∃ b0, w.heap.size = b0 := ⟨_, rfl⟩
 go_enter Tryz.func196, Tryz.ntmps196
 go_upto_region 1 with (fail)
 apply wp_region_lit
 refine wpList_buildTo rfl 298 _ rfl (some 4) rfl (natV (plaR 0)) (by kernel_rfl) ?_
 simp only [Act.put, List.setIfInBounds_toArray, List.set_cons_zero, List.set_cons_succ]
 refine wpList_buildTo rfl 298 _ rfl (some 5) rfl (natV (plaR 1)) (by kernel_rfl) ?_
 simp only [Act.put, List.setIfInBounds_toArray, List.set_cons_zero, List.set_cons_succ]
 refine wpList_buildTo rfl 298 _ rfl (some 6) rfl (natV (plaR 2)) (by kernel_rfl) ?_
 simp only [Act.put, List.setIfInBounds_toArray, List.set_cons_zero, List.set_cons_succ]
 refine wpList_buildTo rfl 298 _ rfl (some 7) rfl (natV (plaR 3)) (by kernel_rfl) ?_
 simp only [Act.put, List.setIfInBounds_toArray, List.set_cons_zero, List.set_cons_succ]
 refine wpList_buildTo rfl 298 _ rfl (some 8) rfl (natV (plaR 4)) (by kernel_rfl) ?_
 simp only [Act.put, List.setIfInBounds_toArray, List.set_cons_zero, List.set_cons_succ]
 refine wpList_buildTo rfl 298 _ rfl (some 9) rfl (natV (plaR 5)) (by kernel_rfl) ?_
 simp only [Act.put, List.setIfInBounds_toArray, List.set_cons_zero, List.set_cons_succ]
 refine wpList_buildTo rfl 298 _ rfl (some 10) rfl (natV (plaR 6)) (by kernel_rfl) ?_
 simp only [Act.put, List.setIfInBounds_toArray, List.set_cons_zero, List.set_cons_succ]
 refine wpList_buildTo rfl 298 _ rfl (some 11) rfl (natV (plaR 7)) (by kernel_rfl) ?_
 simp only [Act.put, List.setIfInBounds_toArray, List.set_cons_zero, List.set_cons_succ]
 refine wpList_buildTo rfl 307 _ rfl (some 12) rfl plaTab (by kernel_rfl) ?_
 simp only [Act.put, List.setIfInBounds_toArray, List.set_cons_zero, List.set_cons_succ]
 refine wpList_plain rfl fun _ hK => ?_
 go_simp
 refine hK _ _ ?_
 clear hK
 refine wpList_store_row rfl 307 _ _ rfl (b0 + 1) plaTab rfl rfl 307 _ (World.alloc_new_at _ _ (by simp; omega)) (by kernel_rfl) (by kernel_rfl) (by kernel_rfl) ?_
 simp only [Act.put, List.setIfInBounds_toArray, List.set_cons_zero, List.set_cons_succ]
 go_upto_region 2 with (fail)
 refine letterW ?_
 intro W hW
 have hT : W.heap[b0 + 1]? = some (.cells plaTab 307 (0, 0)) := by
  rw [hW]; exact setRow_heap _ _ _ _ _ _ (World.alloc_new_at _ _ (by simp; omega))
 have hR : W.heap[b0]? = some (.cells #[.int .i64 0, .int .i64 0, .int .i64 0, .int .i64 0] 298 (0, 0)) := by
  rw [hW]; exact (setRow_other _ _ _ _ (by omega)).trans ((Below.heap_alloc _ _ _ (by simp; omega)).trans (World.alloc_new_at _ _ hb0.symm))
 have HB : Below w.heap.size w W := by
  rw [hW]
  exact below_setRow (((Below.refl w.heap.size w).alloc (Nat.le_refl _) _).alloc (by simp) _) (by omega) _
 clear hW
 have hc := fun j hj => (cellOfRow hT (i * 4 + j)).trans (plaTab_at i j hi hj)
 have c0 : W.cell? ⟨b0 + 1, i * 4, none⟩ = some (.int .i64 (plA i : Nat)) := hc 0 (by decide)
 have c1 : W.cell? ⟨b0 + 1, i * 4 + 1, none⟩ = some (.int .i64 (plB i : Nat)) := hc 1 (by decide)
 have c2 : W.cell? ⟨b0 + 1, i * 4 + 2, none⟩ = some (.int .i64 (plC i : Nat)) := hc 2 (by decide)
 have c3 : W.cell? ⟨b0 + 1, i * 4 + 3, none⟩ = some (.int .i64 (plD i : Nat)) := hc 3 (by decide)
 have hE : ((i : Nat) : Int).tmod 8 = (i : Int) := by rw [Int.tmod_eq_emod_of_nonneg (by omega)]; omega
 have hltI : (i : Int) < 8 := by omega
 have HR := hid hR
 obtain ⟨cR, fR⟩ := rowFacts hR
 clear hT hc hR
 go_wp2_with fail
 have hr4 := block_setCell (i := 3) (block_setCell (i := 2) (block_setCell (i := 1) (block_setCell (i := 0) HR.out (.int .i64 (plA i : Nat))) (.int .i64 (plB i : Nat))) (.int .i64 (plC i : Nat))) (.int .i64 (plD i : Nat))
 exact bodyPost_ret (results_cell_row rfl _ _ _ _ _ _ _ rfl hr4 Tryz.underlying298 rfl rfl) rfl ⟨rfl, (((HB.setCell (by simp; omega) _).setCell (by simp; omega) _).setCell (by simp; omega) _).setCell (by simp; omega) _ |>.mono (by omega)⟩
theorem results_row_tmp {P : Program} {fn : Func} {p u : Tmp} {ty : TypeId} (h : fn.results = #[.cell p ty, .tmp u]) (tmps : Array Value) (w : World) (g : Nat) (t : TypeId) (cs : Array Value) (fr : Nat × Nat) (d : TypeDesc)
  (hp : tmps.getD p undef = .pointer (some ⟨g, 0, none⟩)) (hg : w.heap[g]? = some (.cells cs t fr))
  (hu : P.underlying ty = some d) (hd : (match d with | .struct _ | .array _ _ => true | _ => false) = true) (hi : (P.info? ty).map (·.size) = some cs.size) :
  (results fn tmps).run P w = .ok (.tuple #[.agg cs, tmps.getD u undef]) w := by
 rw [results_cell_tmp h, hp]
 simp [asAddr, run_loadVar_row w g t ty cs fr d hg hu hd hi]
theorem refG64 (L : List Int) (hL : Words 64 16 L) (pa pb pc pd : Nat) (ha : pa < 16) (hb : pb < 16) (hc : pc < 16) (hd : pd < 16) (hab : pa ≠ pb) (hac : pa ≠ pc) (had : pa ≠ pd) (hbc : pb ≠ pc) (hbd : pb ≠ pd) (hcd : pc ≠ pd)
  (x y : Int) (w : World) :
  Calls Tryz.prog 197 #[.agg (arrV .u64 L), .int .i64 pa, .int .i64 pb, .int .i64 pc, .int .i64 pd, .int .u64 x, .int .u64 y] w fun e w' => e = .returned (.tuple #[.agg (arrV .u64 (mixBig.step L pa pb pc pd x y)), .int .i64 0]) ∧ Below w.heap.size w w' := by
 obtain ⟨b0, hb0⟩ : ∃ b0, w.heap.size = b0 := ⟨_, rfl⟩
 have hm : ∀ z, IntKind.u64.wrap z = z % 2 ^ 64 := fun z => IntKind.wrap_u64 z
 obtain ⟨A1, hA1⟩ : ∃ z, IntKind.u64.wrap (IntKind.u64.wrap (wd L pa + wd L pb) + x) = z := ⟨_, rfl⟩
 obtain ⟨X1, hX1⟩ : ∃ z, bits BinOp.xor .u64 (wd L pd) A1 = z := ⟨_, rfl⟩
 obtain ⟨D1, hD1⟩ : ∃ z, rotR 64 32 X1 = z := ⟨_, rfl⟩
 obtain ⟨C1, hC1⟩ : ∃ z, IntKind.u64.wrap (wd L pc + D1) = z := ⟨_, rfl⟩
 obtain ⟨X2, hX2⟩ : ∃ z, bits BinOp.xor .u64 (wd L pb) C1 = z := ⟨_, rfl⟩
 obtain ⟨B1, hB1⟩ : ∃ z, rotR 64 24 X2 = z := ⟨_, rfl⟩
 obtain ⟨A2, hA2⟩ : ∃ z, IntKind.u64.wrap (IntKind.u64.wrap (A1 + B1) + y) = z := ⟨_, rfl⟩
 obtain ⟨X3, hX3⟩ : ∃ z, bits BinOp.xor .u64 D1 A2 = z := ⟨_, rfl⟩
 obtain ⟨D2, hD2⟩ : ∃ z, rotR 64 16 X3 = z := ⟨_, rfl⟩
 obtain ⟨C2, hC2⟩ : ∃ z, IntKind.u64.wrap (C1 + D2) = z := ⟨_, rfl⟩
 obtain ⟨X4, hX4⟩ : ∃ z, bits BinOp.xor .u64 B1 C2 = z := ⟨_, rfl⟩
 obtain ⟨B2, hB2⟩ : ∃ z, rotR 64 63 X4 = z := ⟨_, rfl⟩
 have R1 := hid (fun w => turn64_32 X1 w (hX1 ▸ bits_bound .xor .u64 64 hm _ _))
 have R2 := hid (fun w => turn64_24 X2 w (hX2 ▸ bits_bound .xor .u64 64 hm _ _))
 have R3 := hid (fun w => turn64_16 X3 w (hX3 ▸ bits_bound .xor .u64 64 hm _ _))
 have R4 := hid (fun w => turn64_63 X4 w (hX4 ▸ bits_bound .xor .u64 64 hm _ _))
 have ES : mixBig.step L pa pb pc pd x y = (((L.set pa A2).set pd D2).set pc C2).set pb B2 := by
  have e1 : A1 = mixBig.a1 (wd L pa) (wd L pb) x := by rw [← hA1]; exact w_of' 64 .u64 hm _ _ _
  have e2 : D1 = mixBig.d1 (wd L pa) (wd L pb) (wd L pd) x := by rw [← hD1, ← hX1, e1]; rfl
  have e3 : C1 = mixBig.c1 (wd L pa) (wd L pb) (wd L pc) (wd L pd) x := by rw [← hC1, e2]; exact hm _
  have e4 : B1 = mixBig.b1 (wd L pa) (wd L pb) (wd L pc) (wd L pd) x := by rw [← hB1, ← hX2, e3]; rfl
  have e5 : A2 = mixBig.a2 (wd L pa) (wd L pb) (wd L pc) (wd L pd) x y := by rw [← hA2, e1, e4]; exact w_of' 64 .u64 hm _ _ _
  have e6 : D2 = mixBig.d2 (wd L pa) (wd L pb) (wd L pc) (wd L pd) x y := by rw [← hD2, ← hX3, e2, e5]; rfl
  have e7 : C2 = mixBig.c2 (wd L pa) (wd L pb) (wd L pc) (wd L pd) x y := by rw [← hC2, e3, e6]; exact hm _
  have e8 : B2 = mixBig.b2 (wd L pa) (wd L pb) (wd L pc) (wd L pd) x y := by rw [← hB2, ← hX4, e4, e7]; rfl
  rw [e5, e6, e7, e8]
  rfl
 have ES' := hid (show Ending.returned (.tuple #[.agg (arrV .u64 ((((L.set pa A2).set pd D2).set pc C2).set pb B2)), .int .i64 0]) = .returned (.tuple #[.agg (arrV .u64 (mixBig.step L pa pb pc pd x y)), .int .i64 0]) by rw [ES])
 rw [hD1] at R1
 rw [hB1] at R2
 rw [hD2] at R3
 rw [hB2] at R4
 clear hD1 hB1 hD2 hB2 ES hm
 obtain ⟨va, hva⟩ : ∃ z, wd L pa = z := ⟨_, rfl⟩
 obtain ⟨vb, hvb⟩ : ∃ z, wd L pb = z := ⟨_, rfl⟩
 obtain ⟨vc, hvc⟩ : ∃ z, wd L pc = z := ⟨_, rfl⟩
 obtain ⟨vd, hvd⟩ : ∃ z, wd L pd = z := ⟨_, rfl⟩
 rw [hva, hvb] at hA1
 rw [hvd] at hX1
 rw [hvc] at hC1
 rw [hvb] at hX2
 have HVs := hid (And.intro hva (And.intro hvb (And.intro hvc hvd)))
 clear hva hvb hvc hvd
 have HN := hid (And.intro hab (And.intro hac (And.intro had (And.intro hbc (And.intro hbd hcd)))))
 have n0 : ((pa : Int) == (pb : Int)) = false := by rw [beq_eq_false_iff_ne]; omega
 have n1 : ((pa : Int) == (pc : Int)) = false := by rw [beq_eq_false_iff_ne]; omega
 have n2 : ((pa : Int) == (pd : Int)) = false := by rw [beq_eq_false_iff_ne]; omega
 have n3 : ((pb : Int) == (pc : Int)) = false := by rw [beq_eq_false_iff_ne]; omega
 have n4 : ((pb : Int) == (pd : Int)) = false := by rw [beq_eq_false_iff_ne]; omega
 have n5 : ((pc : Int) == (pd : Int)) = false := by rw [beq_eq_false_iff_ne]; omega
 go_enter Tryz.func197, Tryz.ntmps197
 clear hab hac had hbc hbd hcd
 iterate 4
  go_wp2_with fail
  refine (place_ok _ (by assumption) _).mono ?_; rintro r w1 ⟨rfl, rfl⟩
 go_wp2_with fail
 obtain ⟨hab, hac, had, hbc, hbd, hcd⟩ := HN.out
 refine letterW ?_
 intro W hW
 have hv : W.heap[b0]? = some (.cells (arrV .u64 L) 212 (0, 0)) := by
  rw [hW]; exact (Below.heap_alloc _ _ _ (by simp; omega)).trans (World.alloc_new_at _ _ hb0.symm)
 have hr : W.heap[b0 + 1]? = some (.cells #[.int .u64 0, .int .u64 0, .int .u64 0, .int .u64 0, .int .u64 0, .int .u64 0, .int .u64 0, .int .u64 0, .int .u64 0, .int .u64 0, .int .u64 0, .int .u64 0, .int .u64 0, .int .u64 0, .int .u64 0, .int .u64 0] 212 (0, 0)) := by
  rw [hW]; exact World.alloc_new_at _ _ (by simp; omega)
 have hB : Below w.heap.size w W := by
  rw [hW]; exact ((Below.refl w.heap.size w).alloc (Nat.le_refl _) _).alloc (by simp) _
 clear hW
 obtain ⟨hva, hvb, hvc, hvd⟩ := HVs.out
 have h0 : At4 .u64 b0 212 pa pb pc pd W L va vb vc vd W := ⟨hv, hL.1, hva, hvb, hvc, hvd, ⟨ha, hb, hc, hd⟩, ⟨hab, hac, had, hbc, hbd, hcd⟩, But.refl _ _⟩
 have HR := hid hr
 have HB := hid hB
 clear hv hr hB hva hvb hvc hvd HVs
 refine letterW ?_
 intro W0 hW
 have H0 := hid (h0.letter hW)
 obtain ⟨ca, cb, cc, cd, fb, hs⟩ := H0.out.facts
 clear hW h0
 refine wp_region_pop_q (by dsimp only [List.dropLast]) (by rfl) (by rfl) (by kernel_rfl) (by kernel_rfl) (by kernel_rfl) (by kernel_rfl) ?_
 repeat (go_big_quiet_step (fail))
 refine wpQuiet_nil ?_
 intro _ hw'
 obtain ⟨n0, rfl⟩ := hw'
 go_wp2_with fail
 clear ca cb cc cd fb hs
 have h1 := H0.out.setA n0 A1
 clear H0
 refine letterW ?_
 intro W1 hW
 have H1 := hid (h1.letter hW)
 obtain ⟨ca, cb, cc, cd, fb, hs⟩ := H1.out.facts
 clear hW h1
 refine wp_region_pop_q (by dsimp only [List.dropLast]) (by rfl) (by rfl) (by kernel_rfl) (by kernel_rfl) (by kernel_rfl) (by kernel_rfl) ?_
 repeat (go_big_quiet_step (exact Calls.quiet_of (R1.out _)))
 refine wpQuiet_nil ?_
 intro _ hw'
 obtain ⟨n1, rfl⟩ := hw'
 go_wp2_with fail
 clear ca cb cc cd fb hs
 have h2 := H1.out.setD n1 D1
 clear H1
 refine letterW ?_
 intro W2 hW
 have H2 := hid (h2.letter hW)
 obtain ⟨ca, cb, cc, cd, fb, hs⟩ := H2.out.facts
 clear hW h2
 refine wp_region_pop_q (by dsimp only [List.dropLast]) (by rfl) (by rfl) (by kernel_rfl) (by kernel_rfl) (by kernel_rfl) (by kernel_rfl) ?_
 repeat (go_big_quiet_step (fail))
 refine wpQuiet_nil ?_
 intro _ hw'
 obtain ⟨n2, rfl⟩ := hw'
 go_wp2_with fail
 clear ca cb cc cd fb hs
 have h3 := H2.out.setC n2 C1
 clear H2
 refine letterW ?_
 intro W3 hW
 have H3 := hid (h3.letter hW)
 obtain ⟨ca, cb, cc, cd, fb, hs⟩ := H3.out.facts
 clear hW h3
 refine wp_region_pop_q (by dsimp only [List.dropLast]) (by rfl) (by rfl) (by kernel_rfl) (by kernel_rfl) (by kernel_rfl) (by kernel_rfl) ?_
 repeat (go_big_quiet_step (exact Calls.quiet_of (R2.out _)))
 refine wpQuiet_nil ?_
 intro _ hw'
 obtain ⟨n3, rfl⟩ := hw'
 go_wp2_with fail
 clear ca cb cc cd fb hs
 have h4 := H3.out.setB n3 B1
 clear H3
 refine letterW ?_
 intro W4 hW
 have H4 := hid (h4.letter hW)
 obtain ⟨ca, cb, cc, cd, fb, hs⟩ := H4.out.facts
 clear hW h4
 refine wp_region_pop_q (by dsimp only [List.dropLast]) (by rfl) (by rfl) (by kernel_rfl) (by kernel_rfl) (by kernel_rfl) (by kernel_rfl) ?_
 repeat (go_big_quiet_step (fail))
 refine wpQuiet_nil ?_
 intro _ hw'
 obtain ⟨n4, rfl⟩ := hw'
 go_wp2_with fail
 clear ca cb cc cd fb hs
 have h5 := H4.out.setA n4 A2
 clear H4
 refine letterW ?_
 intro W5 hW
 have H5 := hid (h5.letter hW)
 obtain ⟨ca, cb, cc, cd, fb, hs⟩ := H5.out.facts
 clear hW h5
 refine wp_region_pop_q (by dsimp only [List.dropLast]) (by rfl) (by rfl) (by kernel_rfl) (by kernel_rfl) (by kernel_rfl) (by kernel_rfl) ?_
 repeat (go_big_quiet_step (exact Calls.quiet_of (R3.out _)))
 refine wpQuiet_nil ?_
 intro _ hw'
 obtain ⟨n5, rfl⟩ := hw'
 go_wp2_with fail
 clear ca cb cc cd fb hs
 have h6 := H5.out.setD n5 D2
 clear H5
 refine letterW ?_
 intro W6 hW
 have H6 := hid (h6.letter hW)
 obtain ⟨ca, cb, cc, cd, fb, hs⟩ := H6.out.facts
 clear hW h6
 refine wp_region_pop_q (by dsimp only [List.dropLast]) (by rfl) (by rfl) (by kernel_rfl) (by kernel_rfl) (by kernel_rfl) (by kernel_rfl) ?_
 repeat (go_big_quiet_step (fail))
 refine wpQuiet_nil ?_
 intro _ hw'
 obtain ⟨n6, rfl⟩ := hw'
 go_wp2_with fail
 clear ca cb cc cd fb hs
 have h7 := H6.out.setC n6 C2
 clear H6
 refine letterW ?_
 intro W7 hW
 have H7 := hid (h7.letter hW)
 obtain ⟨ca, cb, cc, cd, fb, hs⟩ := H7.out.facts
 clear hW h7
 refine wp_region_pop_q (by dsimp only [List.dropLast]) (by rfl) (by rfl) (by kernel_rfl) (by kernel_rfl) (by kernel_rfl) (by kernel_rfl) ?_
 repeat (go_big_quiet_step (exact Calls.quiet_of (R4.out _)))
 refine wpQuiet_nil ?_
 intro _ hw'
 obtain ⟨n7, rfl⟩ := hw'
 go_upto_region 11 with (fail)
 clear ca cb cc cd fb hs
 have h8 := H7.out.setB n7 B2
 clear H7
 have hs8 : ((((L.set pa A2).set pd D2).set pc C2).set pb B2).length = 16 := by simpa using hL.1
 have hr8 := (h8.but.block (b0 + 1) (Array.getElem?_eq_some_iff.1 HR.out).1 (by omega)).trans HR.out
 have hh8 := h8.heap
 have HB8 := hid (HB.out.trans (h8.but.below (by omega) HB.out.size))
 rw [set4 hab hac had hbc hbd hcd] at hh8
 generalize (((L.set pa A2).set pd D2).set pc C2).set pb B2 = L8 at *
 clear h8
 apply wp_region_lit
 refine wpList_load_row rfl 212 _ rfl b0 rfl _ _ _ _ hh8 Tryz.underlying212 rfl (by rw [arrV_size, hs8]; kernel_rfl) ?_
 refine wpList_store_row rfl 212 _ _ rfl (b0 + 1) (arrV .u64 L8) rfl rfl 212 _ hr8 (by rw [arrV_size, hs8]; kernel_rfl) (by rw [arrV_size, hs8]; rfl) arrV_all ?_
 simp only [Act.put, List.setIfInBounds_toArray, List.set_cons_zero, List.set_cons_succ]
 go_wp2_with fail
 exact bodyPost_ret (results_row_tmp rfl _ _ _ _ _ _ _ rfl (setRow_heap _ _ _ _ _ _ hr8) Tryz.underlying212 rfl (by rw [arrV_size, hs8]; kernel_rfl)) rfl ⟨Eq.trans (b := .returned (.tuple #[.agg (arrV .u64 L8), .int .i64 0])) rfl ES'.out, below_setRow (HB8.out.mono (by omega)) (by omega) _⟩
def n4 (a b c d : Nat) (i : Nat) : Nat := match i with | 0 => a | 1 => b | 2 => c | _ => d
theorem places4_ok (pa pb pc pd : Nat) (ha : pa < 16) (hb : pb < 16) (hc : pc < 16) (hd : pd < 16) (hab : pa ≠ pb) (hac : pa ≠ pc) (had : pa ≠ pd) (hbc : pb ≠ pc) (hbd : pb ≠ pd) (hcd : pc ≠ pd) (w : World) :
  Calls Tryz.prog 210 #[.int .i64 pa, .int .i64 pb, .int .i64 pc, .int .i64 pd] w fun e w' => e = .returned (.bool true) ∧ Below w.heap.size w w' := by
 have hlt : ∀ i, i < 4 → n4 pa pb pc pd i < 16 := fun i hi => by
  match i, hi with
  | 0, _ => exact ha
  | 1, _ => exact hb
  | 2, _ => exact hc
  | 3, _ => exact hd
 have hne : ∀ i j, i < 4 → j < i → n4 pa pb pc pd i ≠ n4 pa pb pc pd j := fun i j hi hj => by
  match i, j, hi, hj with
  | 1, 0, _, _ => exact Ne.symm hab
  | 2, 0, _, _ => exact Ne.symm hac
  | 2, 1, _, _ => exact Ne.symm hbc
  | 3, 0, _, _ => exact Ne.symm had
  | 3, 1, _, _ => exact Ne.symm hbd
  | 3, 2, _, _ => exact Ne.symm hcd
 have HLT := hid hlt
 have HNE := hid hne
 clear ha hb hc hd hab hac had hbc hbd hcd hlt hne
 obtain ⟨b0, hb0⟩ : ∃ b0, w.heap.size = b0 := ⟨_, rfl⟩
 go_enter Tryz.func210, Tryz.ntmps210
 go_wp2_with fail
 refine letterW ?_
 intro W hW
 have hl : W.heap[b0]? = some (.cells #[.int .i64 pa, .int .i64 pb, .int .i64 pc, .int .i64 pd] 3 (0, 0)) := by
  rw [hW]; exact World.alloc_new_at _ _ hb0.symm
 have hB : Below w.heap.size w W := by rw [hW]; exact (Below.refl _ _).alloc (Nat.le_refl _) _
 have hcell : ∀ i, i < 4 → W.cell? ⟨b0, i, none⟩ = some (.int .i64 (n4 pa pb pc pd i)) := fun i hi => by
  rw [cellOfRow hl]
  match i, hi with
  | 0, _ => rfl
  | 1, _ => rfl
  | 2, _ => rfl
  | 3, _ => rfl
 have HC := hid hcell
 clear hW hl hcell
 go_loopw [10] (fun i wr => ∃ j m : Nat, i = .int .i64 j ∧ j ≤ 4 ∧ wr = W.drewN m) (fun i _ => 4 - (intOf i).toNat)
 case atStart => exact ⟨0, 0, rfl, Nat.zero_le _, rfl⟩
 case round =>
  obtain ⟨j, m, rfl, hj, rfl⟩ := hrel
  by_cases hlt : j < 4
  ·have c1 := HC.out j hlt
   have l1 := HLT.out j hlt
   have HN := hid (fun k hk => HNE.out j k hlt hk)
   have HCj := hid (fun k (hk : k < j) => HC.out k (by omega))
   generalize n4 pa pb pc pd j = x at *
   have q1 : ¬ ((x : Int) < 0) := by omega
   have q2 : ¬ (15 < (x : Int)) := by omega
   go_wp2_with fail
   go_loopw [11] (fun i wr => ∃ k m : Nat, i = .int .i64 k ∧ k ≤ j ∧ wr = W.drewN m) (fun i _ => j - (intOf i).toNat)
   case atStart => exact ⟨0, m, rfl, Nat.zero_le _, rfl⟩
   case round =>
    obtain ⟨k, m2, rfl, hk, rfl⟩ := hrel
    by_cases hlt2 : k < j
    ·have c2 := HCj.out k hlt2
     have n2 := HN.out k hlt2
     generalize n4 pa pb pc pd k = y at *
     have n3 : ((x : Int) == (y : Int)) = false := by rw [beq_eq_false_iff_ne]; omega
     have q3 : k < 4 := by omega
     clear n2
     go_wp2_with fail
     go_quiet (fail)
     go_wp2
     exact ⟨⟨k + 1, _, rfl, by omega, rfl⟩, by simp [intOf]; omega⟩
    ·obtain rfl : k = j := by omega
     go_wp2
     exact ⟨⟨k + 1, m2, rfl, by omega, rfl⟩, by simp [intOf]; omega⟩
  ·obtain rfl : j = 4 := by omega
   go_wp2
   go_ret
   exact ⟨rfl, hB.trans (Below.drewN' _)⟩
theorem results_tmp4 {fn : Func} {t u v x : Tmp} (h : fn.results = #[.tmp t, .tmp u, .tmp v, .tmp x]) (tmps : Array Value) (P : Program) (w : World) :
  (results fn tmps).run P w = .ok (.tuple #[tmps.getD t undef, tmps.getD u undef, tmps.getD v undef, tmps.getD x undef]) w := by
 simp [results, h]
theorem four_ok (i : Nat) (hi : i < 8) (w : World) : Calls Tryz.prog 199 #[.int .i64 i] w fun e w' => e = .returned (.tuple #[.int .i64 (plA i : Nat), .int .i64 (plB i : Nat), .int .i64 (plC i : Nat), .int .i64 (plD i : Nat)]) ∧ w' = w := by
 rcases (show i = 0 ∨ i = 1 ∨ i = 2 ∨ i = 3 ∨ i = 4 ∨ i = 5 ∨ i = 6 ∨ i = 7 by omega) with rfl | rfl | rfl | rfl | rfl | rfl | rfl | rfl
 ·go_enter Tryz.func199, Tryz.ntmps199
  go_wp2
  exact bodyPost_ret (results_tmp4 rfl _ _ _) rfl ⟨rfl, rfl⟩
 ·go_enter Tryz.func199, Tryz.ntmps199
  go_wp2
  exact bodyPost_ret (results_tmp4 rfl _ _ _) rfl ⟨rfl, rfl⟩
 ·go_enter Tryz.func199, Tryz.ntmps199
  go_wp2
  exact bodyPost_ret (results_tmp4 rfl _ _ _) rfl ⟨rfl, rfl⟩
 ·go_enter Tryz.func199, Tryz.ntmps199
  go_wp2
  exact bodyPost_ret (results_tmp4 rfl _ _ _) rfl ⟨rfl, rfl⟩
 ·go_enter Tryz.func199, Tryz.ntmps199
  go_wp2
  exact bodyPost_ret (results_tmp4 rfl _ _ _) rfl ⟨rfl, rfl⟩
 ·go_enter Tryz.func199, Tryz.ntmps199
  go_wp2
  exact bodyPost_ret (results_tmp4 rfl _ _ _) rfl ⟨rfl, rfl⟩
 ·go_enter Tryz.func199, Tryz.ntmps199
  go_wp2
  exact bodyPost_ret (results_tmp4 rfl _ _ _) rfl ⟨rfl, rfl⟩
 ·go_enter Tryz.func199, Tryz.ntmps199
  go_wp2
  exact bodyPost_ret (results_tmp4 rfl _ _ _) rfl ⟨rfl, rfl⟩
theorem refG32 (L : List Int) (hL : Words 32 16 L) (pa pb pc pd : Nat) (ha : pa < 16) (hb : pb < 16) (hc : pc < 16) (hd : pd < 16) (hab : pa ≠ pb) (hac : pa ≠ pc) (had : pa ≠ pd) (hbc : pb ≠ pc) (hbd : pb ≠ pd) (hcd : pc ≠ pd)
  (x y : Int) (w : World) :
  Calls Tryz.prog 200 #[.agg (arrV .u32 L), .int .i64 pa, .int .i64 pb, .int .i64 pc, .int .i64 pd, .int .u32 x, .int .u32 y] w fun e w' => e = .returned (.tuple #[.agg (arrV .u32 (mixSmall.step L pa pb pc pd x y)), .int .i64 0]) ∧ Below w.heap.size w w' := by
 obtain ⟨b0, hb0⟩ : ∃ b0, w.heap.size = b0 := ⟨_, rfl⟩
 have hm : ∀ z, IntKind.u32.wrap z = z % 2 ^ 32 := fun z => IntKind.wrap_u32 z
 obtain ⟨A1, hA1⟩ : ∃ z, (wd L pa + wd L pb + x) % 4294967296 = z := ⟨_, rfl⟩
 obtain ⟨X1, hX1⟩ : ∃ z, bits BinOp.xor .u32 (wd L pd) A1 = z := ⟨_, rfl⟩
 obtain ⟨D1, hD1⟩ : ∃ z, rotR 32 16 X1 = z := ⟨_, rfl⟩
 obtain ⟨C1, hC1⟩ : ∃ z, (wd L pc + D1) % 4294967296 = z := ⟨_, rfl⟩
 obtain ⟨X2, hX2⟩ : ∃ z, bits BinOp.xor .u32 (wd L pb) C1 = z := ⟨_, rfl⟩
 obtain ⟨B1, hB1⟩ : ∃ z, rotR 32 12 X2 = z := ⟨_, rfl⟩
 obtain ⟨A2, hA2⟩ : ∃ z, (A1 + B1 + y) % 4294967296 = z := ⟨_, rfl⟩
 obtain ⟨X3, hX3⟩ : ∃ z, bits BinOp.xor .u32 D1 A2 = z := ⟨_, rfl⟩
 obtain ⟨D2, hD2⟩ : ∃ z, rotR 32 8 X3 = z := ⟨_, rfl⟩
 obtain ⟨C2, hC2⟩ : ∃ z, (C1 + D2) % 4294967296 = z := ⟨_, rfl⟩
 obtain ⟨X4, hX4⟩ : ∃ z, bits BinOp.xor .u32 B1 C2 = z := ⟨_, rfl⟩
 obtain ⟨B2, hB2⟩ : ∃ z, rotR 32 7 X4 = z := ⟨_, rfl⟩
 have R1 := hid (fun w => turn32_16 X1 w (hX1 ▸ bits_bound .xor .u32 32 hm _ _))
 have R2 := hid (fun w => turn32_12 X2 w (hX2 ▸ bits_bound .xor .u32 32 hm _ _))
 have R3 := hid (fun w => turn32_8 X3 w (hX3 ▸ bits_bound .xor .u32 32 hm _ _))
 have R4 := hid (fun w => turn32_7 X4 w (hX4 ▸ bits_bound .xor .u32 32 hm _ _))
 have ES : mixSmall.step L pa pb pc pd x y = (((L.set pa A2).set pd D2).set pc C2).set pb B2 := by
  have e1 : A1 = mixSmall.a1 (wd L pa) (wd L pb) x := by rw [← hA1]; rfl
  have e2 : D1 = mixSmall.d1 (wd L pa) (wd L pb) (wd L pd) x := by rw [← hD1, ← hX1, e1]; rfl
  have e3 : C1 = mixSmall.c1 (wd L pa) (wd L pb) (wd L pc) (wd L pd) x := by rw [← hC1, e2]; rfl
  have e4 : B1 = mixSmall.b1 (wd L pa) (wd L pb) (wd L pc) (wd L pd) x := by rw [← hB1, ← hX2, e3]; rfl
  have e5 : A2 = mixSmall.a2 (wd L pa) (wd L pb) (wd L pc) (wd L pd) x y := by rw [← hA2, e1, e4]; rfl
  have e6 : D2 = mixSmall.d2 (wd L pa) (wd L pb) (wd L pc) (wd L pd) x y := by rw [← hD2, ← hX3, e2, e5]; rfl
  have e7 : C2 = mixSmall.c2 (wd L pa) (wd L pb) (wd L pc) (wd L pd) x y := by rw [← hC2, e3, e6]; rfl
  have e8 : B2 = mixSmall.b2 (wd L pa) (wd L pb) (wd L pc) (wd L pd) x y := by rw [← hB2, ← hX4, e4, e7]; rfl
  rw [e5, e6, e7, e8]
  rfl
 have ES' := hid (show Ending.returned (.tuple #[.agg (arrV .u32 ((((L.set pa A2).set pd D2).set pc C2).set pb B2)), .int .i64 0]) = .returned (.tuple #[.agg (arrV .u32 (mixSmall.step L pa pb pc pd x y)), .int .i64 0]) by rw [ES])
 rw [hD1] at R1
 rw [hB1] at R2
 rw [hD2] at R3
 rw [hB2] at R4
 clear hD1 hB1 hD2 hB2 ES hm
 obtain ⟨va, hva⟩ : ∃ z, wd L pa = z := ⟨_, rfl⟩
 obtain ⟨vb, hvb⟩ : ∃ z, wd L pb = z := ⟨_, rfl⟩
 obtain ⟨vc, hvc⟩ : ∃ z, wd L pc = z := ⟨_, rfl⟩
 obtain ⟨vd, hvd⟩ : ∃ z, wd L pd = z := ⟨_, rfl⟩
 rw [hva, hvb] at hA1
 rw [hvd] at hX1
 rw [hvc] at hC1
 rw [hvb] at hX2
 have HVs := hid (And.intro hva (And.intro hvb (And.intro hvc hvd)))
 clear hva hvb hvc hvd
 have HN := hid (And.intro hab (And.intro hac (And.intro had (And.intro hbc (And.intro hbd hcd)))))
 go_enter Tryz.func200, Tryz.ntmps200
 go_wp2_with fail
 refine (places4_ok pa pb pc pd ha hb hc hd hab hac had hbc hbd hcd _).mono ?_; rintro r w1 ⟨rfl, hb1⟩
 clear hab hac had hbc hbd hcd
 go_wp2_with fail
 obtain ⟨hab, hac, had, hbc, hbd, hcd⟩ := HN.out
 refine letterW ?_
 intro W hW
 have hv : W.heap[b0]? = some (.cells (arrV .u32 L) 263 (0, 0)) := by
  rw [hW]; exact (hb1.block b0 (by simp; omega)).trans ((Below.heap_alloc _ _ _ (by simp; omega)).trans (World.alloc_new_at _ _ hb0.symm))
 have hr : W.heap[b0 + 1]? = some (.cells #[.int .u32 0, .int .u32 0, .int .u32 0, .int .u32 0, .int .u32 0, .int .u32 0, .int .u32 0, .int .u32 0, .int .u32 0, .int .u32 0, .int .u32 0, .int .u32 0, .int .u32 0, .int .u32 0, .int .u32 0, .int .u32 0] 263 (0, 0)) := by
  rw [hW]; exact (hb1.block (b0 + 1) (by simp; omega)).trans (World.alloc_new_at _ _ (by simp; omega))
 have hB : Below w.heap.size w W := by
  rw [hW]; exact (((Below.refl w.heap.size w).alloc (Nat.le_refl _) _).alloc (by simp) _).trans (hb1.mono (by simp; omega))
 clear hW hb1
 obtain ⟨hva, hvb, hvc, hvd⟩ := HVs.out
 have h0 : At4 .u32 b0 263 pa pb pc pd W L va vb vc vd W := ⟨hv, hL.1, hva, hvb, hvc, hvd, ⟨ha, hb, hc, hd⟩, ⟨hab, hac, had, hbc, hbd, hcd⟩, But.refl _ _⟩
 have HR := hid hr
 have HB := hid hB
 clear hv hr hB hva hvb hvc hvd HVs
 refine letterW ?_
 intro W0 hW
 have H0 := hid (h0.letter hW)
 obtain ⟨ca, cb, cc, cd, fb, hs⟩ := H0.out.facts
 clear hW h0
 refine wp_region_pop_q (by dsimp only [List.dropLast]) (by rfl) (by rfl) (by kernel_rfl) (by kernel_rfl) (by kernel_rfl) (by kernel_rfl) ?_
 repeat (go_big_quiet_step (fail))
 refine wpQuiet_nil ?_
 intro _ hw'
 obtain ⟨n0, rfl⟩ := hw'
 go_wp2_with fail
 clear ca cb cc cd fb hs
 have h1 := H0.out.setA n0 A1
 clear H0
 refine letterW ?_
 intro W1 hW
 have H1 := hid (h1.letter hW)
 obtain ⟨ca, cb, cc, cd, fb, hs⟩ := H1.out.facts
 clear hW h1
 refine wp_region_pop_q (by dsimp only [List.dropLast]) (by rfl) (by rfl) (by kernel_rfl) (by kernel_rfl) (by kernel_rfl) (by kernel_rfl) ?_
 repeat (go_big_quiet_step (exact Calls.quiet_of_same (R1.out _)))
 refine wpQuiet_nil ?_
 intro _ hw'
 obtain ⟨n1, rfl⟩ := hw'
 go_wp2_with fail
 clear ca cb cc cd fb hs
 have h2 := H1.out.setD n1 D1
 clear H1
 refine letterW ?_
 intro W2 hW
 have H2 := hid (h2.letter hW)
 obtain ⟨ca, cb, cc, cd, fb, hs⟩ := H2.out.facts
 clear hW h2
 refine wp_region_pop_q (by dsimp only [List.dropLast]) (by rfl) (by rfl) (by kernel_rfl) (by kernel_rfl) (by kernel_rfl) (by kernel_rfl) ?_
 repeat (go_big_quiet_step (fail))
 refine wpQuiet_nil ?_
 intro _ hw'
 obtain ⟨n2, rfl⟩ := hw'
 go_wp2_with fail
 clear ca cb cc cd fb hs
 have h3 := H2.out.setC n2 C1
 clear H2
 refine letterW ?_
 intro W3 hW
 have H3 := hid (h3.letter hW)
 obtain ⟨ca, cb, cc, cd, fb, hs⟩ := H3.out.facts
 clear hW h3
 refine wp_region_pop_q (by dsimp only [List.dropLast]) (by rfl) (by rfl) (by kernel_rfl) (by kernel_rfl) (by kernel_rfl) (by kernel_rfl) ?_
 repeat (go_big_quiet_step (exact Calls.quiet_of_same (R2.out _)))
 refine wpQuiet_nil ?_
 intro _ hw'
 obtain ⟨n3, rfl⟩ := hw'
 go_wp2_with fail
 clear ca cb cc cd fb hs
 have h4 := H3.out.setB n3 B1
 clear H3
 refine letterW ?_
 intro W4 hW
 have H4 := hid (h4.letter hW)
 obtain ⟨ca, cb, cc, cd, fb, hs⟩ := H4.out.facts
 clear hW h4
 refine wp_region_pop_q (by dsimp only [List.dropLast]) (by rfl) (by rfl) (by kernel_rfl) (by kernel_rfl) (by kernel_rfl) (by kernel_rfl) ?_
 repeat (go_big_quiet_step (fail))
 refine wpQuiet_nil ?_
 intro _ hw'
 obtain ⟨n4, rfl⟩ := hw'
 go_wp2_with fail
 clear ca cb cc cd fb hs
 have h5 := H4.out.setA n4 A2
 clear H4
 refine letterW ?_
 intro W5 hW
 have H5 := hid (h5.letter hW)
 obtain ⟨ca, cb, cc, cd, fb, hs⟩ := H5.out.facts
 clear hW h5
 refine wp_region_pop_q (by dsimp only [List.dropLast]) (by rfl) (by rfl) (by kernel_rfl) (by kernel_rfl) (by kernel_rfl) (by kernel_rfl) ?_
 repeat (go_big_quiet_step (exact Calls.quiet_of_same (R3.out _)))
 refine wpQuiet_nil ?_
 intro _ hw'
 obtain ⟨n5, rfl⟩ := hw'
 go_wp2_with fail
 clear ca cb cc cd fb hs
 have h6 := H5.out.setD n5 D2
 clear H5
 refine letterW ?_
 intro W6 hW
 have H6 := hid (h6.letter hW)
 obtain ⟨ca, cb, cc, cd, fb, hs⟩ := H6.out.facts
 clear hW h6
 refine wp_region_pop_q (by dsimp only [List.dropLast]) (by rfl) (by rfl) (by kernel_rfl) (by kernel_rfl) (by kernel_rfl) (by kernel_rfl) ?_
 repeat (go_big_quiet_step (fail))
 refine wpQuiet_nil ?_
 intro _ hw'
 obtain ⟨n6, rfl⟩ := hw'
 go_wp2_with fail
 clear ca cb cc cd fb hs
 have h7 := H6.out.setC n6 C2
 clear H6
 refine letterW ?_
 intro W7 hW
 have H7 := hid (h7.letter hW)
 obtain ⟨ca, cb, cc, cd, fb, hs⟩ := H7.out.facts
 clear hW h7
 refine wp_region_pop_q (by dsimp only [List.dropLast]) (by rfl) (by rfl) (by kernel_rfl) (by kernel_rfl) (by kernel_rfl) (by kernel_rfl) ?_
 repeat (go_big_quiet_step (exact Calls.quiet_of_same (R4.out _)))
 refine wpQuiet_nil ?_
 intro _ hw'
 obtain ⟨n7, rfl⟩ := hw'
 go_upto_region 11 with (fail)
 clear ca cb cc cd fb hs
 have h8 := H7.out.setB n7 B2
 clear H7
 have hs8 : ((((L.set pa A2).set pd D2).set pc C2).set pb B2).length = 16 := by simpa using hL.1
 have hr8 := (h8.but.block (b0 + 1) (Array.getElem?_eq_some_iff.1 HR.out).1 (by omega)).trans HR.out
 have hh8 := h8.heap
 have HB8 := hid (HB.out.trans (h8.but.below (by omega) HB.out.size))
 rw [set4 hab hac had hbc hbd hcd] at hh8
 generalize (((L.set pa A2).set pd D2).set pc C2).set pb B2 = L8 at *
 clear h8
 apply wp_region_lit
 refine wpList_load_row rfl 263 _ rfl b0 rfl _ _ _ _ hh8 Tryz.underlying263 rfl (by rw [arrV_size, hs8]; kernel_rfl) ?_
 refine wpList_store_row rfl 263 _ _ rfl (b0 + 1) (arrV .u32 L8) rfl rfl 263 _ hr8 (by rw [arrV_size, hs8]; kernel_rfl) (by rw [arrV_size, hs8]; rfl) arrV_all ?_
 simp only [Act.put, List.setIfInBounds_toArray, List.set_cons_zero, List.set_cons_succ]
 go_wp2_with fail
 exact bodyPost_ret (results_row_tmp rfl _ _ _ _ _ _ _ rfl (setRow_heap _ _ _ _ _ _ hr8) Tryz.underlying263 rfl (by rw [arrV_size, hs8]; kernel_rfl)) rfl ⟨Eq.trans (b := .returned (.tuple #[.agg (arrV .u32 L8), .int .i64 0])) rfl ES'.out, below_setRow (HB8.out.mono (by omega)) (by omega) _⟩
end Go.Proofs.YtchepcilkcdemaaGreat
