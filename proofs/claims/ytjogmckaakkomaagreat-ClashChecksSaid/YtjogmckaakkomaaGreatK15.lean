/- A step of the mixing, by the reference, both kinds. No condition. -/
import Derived.Test.YtjogmckaakkomaaGreatK14
import Derived.Laws.ResultCell
namespace Go.Proofs.YtjogmckaakkomaaGreat
open Go.ChangeShapes Go.WideShapes Go.ChangeAt Go.RowKit Go.Joins
attribute [local go_sem] Oper.semAt_some

theorem results_row_tmp {P : Program} {fn : Func} {p u : Tmp} {ty : TypeId} (h : fn.results = #[.cell p ty, .tmp u]) (tmps : Array Value) (w : World) (g : Nat) (t : TypeId) (cs : Array Value) (fr : Nat × Nat) (d : TypeDesc)
  (hp : tmps.getD p undef = .pointer (some ⟨g, 0, none⟩)) (hg : w.heap[g]? = some (.cells cs t fr))
  (hu : P.underlying ty = some d) (hd : (match d with | .struct _ | .array _ _ => true | _ => false) = true) (hi : (P.info? ty).map (·.size) = some cs.size) :
  (results fn tmps).run P w = .ok (.tuple #[.agg cs, tmps.getD u undef]) w := by
 rw [results_cell_tmp h, hp]
 simp [asAddr, run_loadVar_row w g t ty cs fr d hg hu hd hi]
set_option maxRecDepth 100000 in
set_option maxHeartbeats 1000000 in
theorem refG64 (L : List Int) (hL : Words 64 16 L) (pa pb pc pd : Nat) (ha : pa < 16) (hb : pb < 16) (hc : pc < 16) (hd : pd < 16) (hab : pa ≠ pb) (hac : pa ≠ pc) (had : pa ≠ pd) (hbc : pb ≠ pc) (hbd : pb ≠ pd) (hcd : pc ≠ pd)
  (x y : Int) (w : World) :
  Calls Tryz.prog 138 #[.agg (arrV .u64 L), .int .i64 pa, .int .i64 pb, .int .i64 pc, .int .i64 pd, .int .u64 x, .int .u64 y] w fun e w' => e = .returned (.tuple #[.agg (arrV .u64 (mixBig.step L pa pb pc pd x y)), .int .i64 0]) ∧ Below w.heap.size w w' := by
 obtain ⟨b0, hb0⟩ : ∃ b0, w.heap.size = b0 := ⟨_, rfl⟩
 have hm : ∀ z, IntKind.u64.wrap z = z % 2 ^ 64 := fun z => IntKind.wrap_u64 z
 obtain ⟨A1, hA1⟩ : ∃ z, IntKind.u64.wrap (IntKind.u64.wrap (wd L pa + wd L pb) + x) = z := ⟨_, rfl⟩
 obtain ⟨X1, hX1⟩ : ∃ z, bits BinOp.xor .u64 (wd L pd) A1 = z := ⟨_, rfl⟩
 obtain ⟨D1, hD1⟩ : ∃ z, rotR 64 32 X1 = z := ⟨_, rfl⟩
 obtain ⟨C1, hC1⟩ : ∃ z, IntKind.u64.wrap (wd L pc + D1) = z := ⟨_, rfl⟩
 obtain ⟨X2, hX2⟩ : ∃ z, bits BinOp.xor .u64 (wd L pb) C1 = z := ⟨_, rfl⟩
 obtain ⟨B1, hB1⟩ : ∃ z, rotR 64 24 X2 = z := ⟨_, rfl⟩
 obtain ⟨A2, hA2⟩ : ∃ z, IntKind.u64.wrap (IntKind.u64.wrap (A1 + B1) + y) = z := ⟨_, rfl⟩
 obtain ⟨X3, hX3⟩ : ∃ z, bits BinOp.xor .u64 D1 A2 = z := ⟨_, rfl⟩
 obtain ⟨D2, hD2⟩ : ∃ z, rotR 64 16 X3 = z := ⟨_, rfl⟩
 obtain ⟨C2, hC2⟩ : ∃ z, IntKind.u64.wrap (C1 + D2) = z := ⟨_, rfl⟩
 obtain ⟨X4, hX4⟩ : ∃ z, bits BinOp.xor .u64 B1 C2 = z := ⟨_, rfl⟩
 obtain ⟨B2, hB2⟩ : ∃ z, rotR 64 63 X4 = z := ⟨_, rfl⟩
 have R1 := Lib.hid (fun w => turn64_32 X1 w (hX1 ▸ bits_bound .xor .u64 64 hm _ _))
 have R2 := Lib.hid (fun w => turn64_24 X2 w (hX2 ▸ bits_bound .xor .u64 64 hm _ _))
 have R3 := Lib.hid (fun w => turn64_16 X3 w (hX3 ▸ bits_bound .xor .u64 64 hm _ _))
 have R4 := Lib.hid (fun w => turn64_63 X4 w (hX4 ▸ bits_bound .xor .u64 64 hm _ _))
 have ES : mixBig.step L pa pb pc pd x y = (((L.set pa A2).set pd D2).set pc C2).set pb B2 := by
  have e1 : A1 = mixBig.a1 (wd L pa) (wd L pb) x := by rw [← hA1]; exact w_of' 64 .u64 hm _ _ _
  have e2 : D1 = mixBig.d1 (wd L pa) (wd L pb) (wd L pd) x := by rw [← hD1, ← hX1, e1]; rfl
  have e3 : C1 = mixBig.c1 (wd L pa) (wd L pb) (wd L pc) (wd L pd) x := by rw [← hC1, e2]; exact hm _
  have e4 : B1 = mixBig.b1 (wd L pa) (wd L pb) (wd L pc) (wd L pd) x := by rw [← hB1, ← hX2, e3]; rfl
  have e5 : A2 = mixBig.a2 (wd L pa) (wd L pb) (wd L pc) (wd L pd) x y := by rw [← hA2, e1, e4]; exact w_of' 64 .u64 hm _ _ _
  have e6 : D2 = mixBig.d2 (wd L pa) (wd L pb) (wd L pc) (wd L pd) x y := by rw [← hD2, ← hX3, e2, e5]; rfl
  have e7 : C2 = mixBig.c2 (wd L pa) (wd L pb) (wd L pc) (wd L pd) x y := by rw [← hC2, e3, e6]; exact hm _
  have e8 : B2 = mixBig.b2 (wd L pa) (wd L pb) (wd L pc) (wd L pd) x y := by rw [← hB2, ← hX4, e4, e7]; rfl
  rw [e5, e6, e7, e8]
  rfl
 have ES' := Lib.hid (show Ending.returned (.tuple #[.agg (arrV .u64 ((((L.set pa A2).set pd D2).set pc C2).set pb B2)), .int .i64 0]) = .returned (.tuple #[.agg (arrV .u64 (mixBig.step L pa pb pc pd x y)), .int .i64 0]) by rw [ES])
 rw [hD1] at R1
 rw [hB1] at R2
 rw [hD2] at R3
 rw [hB2] at R4
 clear hD1 hB1 hD2 hB2 ES hm
 obtain ⟨va, hva⟩ : ∃ z, wd L pa = z := ⟨_, rfl⟩
 obtain ⟨vb, hvb⟩ : ∃ z, wd L pb = z := ⟨_, rfl⟩
 obtain ⟨vc, hvc⟩ : ∃ z, wd L pc = z := ⟨_, rfl⟩
 obtain ⟨vd, hvd⟩ : ∃ z, wd L pd = z := ⟨_, rfl⟩
 rw [hva, hvb] at hA1
 rw [hvd] at hX1
 rw [hvc] at hC1
 rw [hvb] at hX2
 have HVs := Lib.hid (And.intro hva (And.intro hvb (And.intro hvc hvd)))
 clear hva hvb hvc hvd
 have HN := Lib.hid (And.intro hab (And.intro hac (And.intro had (And.intro hbc (And.intro hbd hcd)))))
 have n0 : ((pa : Int) == (pb : Int)) = false := by rw [beq_eq_false_iff_ne]; omega
 have n1 : ((pa : Int) == (pc : Int)) = false := by rw [beq_eq_false_iff_ne]; omega
 have n2 : ((pa : Int) == (pd : Int)) = false := by rw [beq_eq_false_iff_ne]; omega
 have n3 : ((pb : Int) == (pc : Int)) = false := by rw [beq_eq_false_iff_ne]; omega
 have n4 : ((pb : Int) == (pd : Int)) = false := by rw [beq_eq_false_iff_ne]; omega
 have n5 : ((pc : Int) == (pd : Int)) = false := by rw [beq_eq_false_iff_ne]; omega
 go_enter Tryz.func138, Tryz.ntmps138
 clear hab hac had hbc hbd hcd
 iterate 4
  go_wp2_with fail
  refine (place_ok _ (by assumption) _).mono ?_; rintro r w1 ⟨rfl, rfl⟩
 go_wp2_with fail
 obtain ⟨hab, hac, had, hbc, hbd, hcd⟩ := HN.out
 refine letterW ?_
 intro W hW
 have hv : W.heap[b0]? = some (.cells (arrV .u64 L) 123 (0, 0)) := by
  rw [hW]; exact (Below.heap_alloc _ _ _ (by simp; omega)).trans (World.alloc_new_at _ _ hb0.symm)
 have hr : W.heap[b0 + 1]? = some (.cells #[.int .u64 0, .int .u64 0, .int .u64 0, .int .u64 0, .int .u64 0, .int .u64 0, .int .u64 0, .int .u64 0, .int .u64 0, .int .u64 0, .int .u64 0, .int .u64 0, .int .u64 0, .int .u64 0, .int .u64 0, .int .u64 0] 123 (0, 0)) := by
  rw [hW]; exact World.alloc_new_at _ _ (by simp; omega)
 have hB : Below w.heap.size w W := by
  rw [hW]; exact ((Below.refl w.heap.size w).alloc (Nat.le_refl _) _).alloc (by simp) _
 clear hW
 obtain ⟨hva, hvb, hvc, hvd⟩ := HVs.out
 have h0 : At4 .u64 b0 123 pa pb pc pd W L va vb vc vd W := ⟨hv, hL.1, hva, hvb, hvc, hvd, ⟨ha, hb, hc, hd⟩, ⟨hab, hac, had, hbc, hbd, hcd⟩, But.refl _ _⟩
 have HR := Lib.hid hr
 have HB := Lib.hid hB
 clear hv hr hB hva hvb hvc hvd HVs
 refine letterW ?_
 intro W0 hW
 have H0 := Lib.hid (h0.letter hW)
 obtain ⟨ca, cb, cc, cd, fb, hs⟩ := H0.out.facts
 clear hW h0
 refine wp_region_pop_q (by dsimp only [List.dropLast]) (by rfl) (by rfl) (by kernel_rfl) (by kernel_rfl) (by kernel_rfl) (by kernel_rfl) ?_
 repeat (go_big_quiet_step (fail))
 refine wpQuiet_nil ?_
 intro _ hw'
 obtain ⟨n0, rfl⟩ := hw'
 go_wp2_with fail
 clear ca cb cc cd fb hs
 have h1 := H0.out.setA n0 A1
 clear H0
 refine letterW ?_
 intro W1 hW
 have H1 := Lib.hid (h1.letter hW)
 obtain ⟨ca, cb, cc, cd, fb, hs⟩ := H1.out.facts
 clear hW h1
 refine wp_region_pop_q (by dsimp only [List.dropLast]) (by rfl) (by rfl) (by kernel_rfl) (by kernel_rfl) (by kernel_rfl) (by kernel_rfl) ?_
 repeat (go_big_quiet_step (exact Calls.quiet_of (R1.out _)))
 refine wpQuiet_nil ?_
 intro _ hw'
 obtain ⟨n1, rfl⟩ := hw'
 go_wp2_with fail
 clear ca cb cc cd fb hs
 have h2 := H1.out.setD n1 D1
 clear H1
 refine letterW ?_
 intro W2 hW
 have H2 := Lib.hid (h2.letter hW)
 obtain ⟨ca, cb, cc, cd, fb, hs⟩ := H2.out.facts
 clear hW h2
 refine wp_region_pop_q (by dsimp only [List.dropLast]) (by rfl) (by rfl) (by kernel_rfl) (by kernel_rfl) (by kernel_rfl) (by kernel_rfl) ?_
 repeat (go_big_quiet_step (fail))
 refine wpQuiet_nil ?_
 intro _ hw'
 obtain ⟨n2, rfl⟩ := hw'
 go_wp2_with fail
 clear ca cb cc cd fb hs
 have h3 := H2.out.setC n2 C1
 clear H2
 refine letterW ?_
 intro W3 hW
 have H3 := Lib.hid (h3.letter hW)
 obtain ⟨ca, cb, cc, cd, fb, hs⟩ := H3.out.facts
 clear hW h3
 refine wp_region_pop_q (by dsimp only [List.dropLast]) (by rfl) (by rfl) (by kernel_rfl) (by kernel_rfl) (by kernel_rfl) (by kernel_rfl) ?_
 repeat (go_big_quiet_step (exact Calls.quiet_of (R2.out _)))
 refine wpQuiet_nil ?_
 intro _ hw'
 obtain ⟨n3, rfl⟩ := hw'
 go_wp2_with fail
 clear ca cb cc cd fb hs
 have h4 := H3.out.setB n3 B1
 clear H3
 refine letterW ?_
 intro W4 hW
 have H4 := Lib.hid (h4.letter hW)
 obtain ⟨ca, cb, cc, cd, fb, hs⟩ := H4.out.facts
 clear hW h4
 refine wp_region_pop_q (by dsimp only [List.dropLast]) (by rfl) (by rfl) (by kernel_rfl) (by kernel_rfl) (by kernel_rfl) (by kernel_rfl) ?_
 repeat (go_big_quiet_step (fail))
 refine wpQuiet_nil ?_
 intro _ hw'
 obtain ⟨n4, rfl⟩ := hw'
 go_wp2_with fail
 clear ca cb cc cd fb hs
 have h5 := H4.out.setA n4 A2
 clear H4
 refine letterW ?_
 intro W5 hW
 have H5 := Lib.hid (h5.letter hW)
 obtain ⟨ca, cb, cc, cd, fb, hs⟩ := H5.out.facts
 clear hW h5
 refine wp_region_pop_q (by dsimp only [List.dropLast]) (by rfl) (by rfl) (by kernel_rfl) (by kernel_rfl) (by kernel_rfl) (by kernel_rfl) ?_
 repeat (go_big_quiet_step (exact Calls.quiet_of (R3.out _)))
 refine wpQuiet_nil ?_
 intro _ hw'
 obtain ⟨n5, rfl⟩ := hw'
 go_wp2_with fail
 clear ca cb cc cd fb hs
 have h6 := H5.out.setD n5 D2
 clear H5
 refine letterW ?_
 intro W6 hW
 have H6 := Lib.hid (h6.letter hW)
 obtain ⟨ca, cb, cc, cd, fb, hs⟩ := H6.out.facts
 clear hW h6
 refine wp_region_pop_q (by dsimp only [List.dropLast]) (by rfl) (by rfl) (by kernel_rfl) (by kernel_rfl) (by kernel_rfl) (by kernel_rfl) ?_
 repeat (go_big_quiet_step (fail))
 refine wpQuiet_nil ?_
 intro _ hw'
 obtain ⟨n6, rfl⟩ := hw'
 go_wp2_with fail
 clear ca cb cc cd fb hs
 have h7 := H6.out.setC n6 C2
 clear H6
 refine letterW ?_
 intro W7 hW
 have H7 := Lib.hid (h7.letter hW)
 obtain ⟨ca, cb, cc, cd, fb, hs⟩ := H7.out.facts
 clear hW h7
 refine wp_region_pop_q (by dsimp only [List.dropLast]) (by rfl) (by rfl) (by kernel_rfl) (by kernel_rfl) (by kernel_rfl) (by kernel_rfl) ?_
 repeat (go_big_quiet_step (exact Calls.quiet_of (R4.out _)))
 refine wpQuiet_nil ?_
 intro _ hw'
 obtain ⟨n7, rfl⟩ := hw'
 go_upto_region 11 with (fail)
 clear ca cb cc cd fb hs
 have h8 := H7.out.setB n7 B2
 clear H7
 have hs8 : ((((L.set pa A2).set pd D2).set pc C2).set pb B2).length = 16 := by simpa using hL.1
 have hr8 := (h8.but.block (b0 + 1) (Array.getElem?_eq_some_iff.1 HR.out).1 (by omega)).trans HR.out
 have hh8 := h8.heap
 have HB8 := Lib.hid (HB.out.trans (h8.but.below (by omega) HB.out.size))
 rw [set4 hab hac had hbc hbd hcd] at hh8
 generalize (((L.set pa A2).set pd D2).set pc C2).set pb B2 = L8 at *
 clear h8
 apply wp_region_lit
 refine wpList_load_row rfl 123 _ rfl b0 rfl _ _ _ _ hh8 Tryz.underlying123 rfl (by rw [arrV_size, hs8]; kernel_rfl) ?_
 refine wpList_store_row rfl 123 _ _ rfl (b0 + 1) (arrV .u64 L8) rfl rfl 123 _ hr8 (by rw [arrV_size, hs8]; kernel_rfl) (by rw [arrV_size, hs8]; rfl) arrV_all ?_
 simp only [Act.put, List.setIfInBounds_toArray, List.set_cons_zero, List.set_cons_succ]
 go_wp2_with fail
 exact bodyPost_ret (results_row_tmp rfl _ _ _ _ _ _ _ rfl (setRow_heap _ _ _ _ _ _ hr8) Tryz.underlying123 rfl (by rw [arrV_size, hs8]; kernel_rfl)) rfl ⟨Eq.trans (b := .returned (.tuple #[.agg (arrV .u64 L8), .int .i64 0])) rfl ES'.out, below_setRow (HB8.out.mono (by omega)) (by omega) _⟩
end Go.Proofs.YtjogmckaakkomaaGreat
/- A step of the small mixing, by the reference. No condition. -/
namespace Go.Proofs.YtjogmckaakkomaaGreat
open Go.ChangeShapes Go.WideShapes Go.ChangeAt Go.RowKit Go.Joins
attribute [local go_sem] Oper.semAt_some

def n4 (a b c d : Nat) (i : Nat) : Nat := match i with | 0 => a | 1 => b | 2 => c | _ => d
set_option maxRecDepth 100000 in
set_option maxHeartbeats 1000000 in
theorem places4_ok (pa pb pc pd : Nat) (ha : pa < 16) (hb : pb < 16) (hc : pc < 16) (hd : pd < 16) (hab : pa ≠ pb) (hac : pa ≠ pc) (had : pa ≠ pd) (hbc : pb ≠ pc) (hbd : pb ≠ pd) (hcd : pc ≠ pd) (w : World) :
  Calls Tryz.prog 151 #[.int .i64 pa, .int .i64 pb, .int .i64 pc, .int .i64 pd] w fun e w' => e = .returned (.bool true) ∧ Below w.heap.size w w' := by
 have hlt : ∀ i, i < 4 → n4 pa pb pc pd i < 16 := fun i hi => by
  match i, hi with
  | 0, _ => exact ha
  | 1, _ => exact hb
  | 2, _ => exact hc
  | 3, _ => exact hd
 have hne : ∀ i j, i < 4 → j < i → n4 pa pb pc pd i ≠ n4 pa pb pc pd j := fun i j hi hj => by
  match i, j, hi, hj with
  | 1, 0, _, _ => exact Ne.symm hab
  | 2, 0, _, _ => exact Ne.symm hac
  | 2, 1, _, _ => exact Ne.symm hbc
  | 3, 0, _, _ => exact Ne.symm had
  | 3, 1, _, _ => exact Ne.symm hbd
  | 3, 2, _, _ => exact Ne.symm hcd
 have HLT := Lib.hid hlt
 have HNE := Lib.hid hne
 clear ha hb hc hd hab hac had hbc hbd hcd hlt hne
 obtain ⟨b0, hb0⟩ : ∃ b0, w.heap.size = b0 := ⟨_, rfl⟩
 go_enter Tryz.func151, Tryz.ntmps151
 go_wp2_with fail
 refine letterW ?_
 intro W hW
 have hl : W.heap[b0]? = some (.cells #[.int .i64 pa, .int .i64 pb, .int .i64 pc, .int .i64 pd] 3 (0, 0)) := by
  rw [hW]; exact World.alloc_new_at _ _ hb0.symm
 have hB : Below w.heap.size w W := by rw [hW]; exact (Below.refl _ _).alloc (Nat.le_refl _) _
 have hcell : ∀ i, i < 4 → W.cell? ⟨b0, i, none⟩ = some (.int .i64 (n4 pa pb pc pd i)) := fun i hi => by
  rw [cellOfRow hl]
  match i, hi with
  | 0, _ => rfl
  | 1, _ => rfl
  | 2, _ => rfl
  | 3, _ => rfl
 have HC := Lib.hid hcell
 clear hW hl hcell
 go_loopw [10] (fun i wr => ∃ j m : Nat, i = .int .i64 j ∧ j ≤ 4 ∧ wr = W.drewN m) (fun i _ => 4 - (intOf i).toNat)
 case atStart => exact ⟨0, 0, rfl, Nat.zero_le _, rfl⟩
 case round =>
  obtain ⟨j, m, rfl, hj, rfl⟩ := hrel
  by_cases hlt : j < 4
  ·have c1 := HC.out j hlt
   have l1 := HLT.out j hlt
   have HN := Lib.hid (fun k hk => HNE.out j k hlt hk)
   have HCj := Lib.hid (fun k (hk : k < j) => HC.out k (by omega))
   generalize n4 pa pb pc pd j = x at *
   have q1 : ¬ ((x : Int) < 0) := by omega
   have q2 : ¬ (15 < (x : Int)) := by omega
   go_wp2_with fail
   go_loopw [11] (fun i wr => ∃ k m : Nat, i = .int .i64 k ∧ k ≤ j ∧ wr = W.drewN m) (fun i _ => j - (intOf i).toNat)
   case atStart => exact ⟨0, m, rfl, Nat.zero_le _, rfl⟩
   case round =>
    obtain ⟨k, m2, rfl, hk, rfl⟩ := hrel
    by_cases hlt2 : k < j
    ·have c2 := HCj.out k hlt2
     have n2 := HN.out k hlt2
     generalize n4 pa pb pc pd k = y at *
     have n3 : ((x : Int) == (y : Int)) = false := by rw [beq_eq_false_iff_ne]; omega
     have q3 : k < 4 := by omega
     clear n2
     go_wp2_with fail
     go_quiet (fail)
     go_wp2
     exact ⟨⟨k + 1, _, rfl, by omega, rfl⟩, by simp [intOf]; omega⟩
    ·obtain rfl : k = j := by omega
     go_wp2
     exact ⟨⟨k + 1, m2, rfl, by omega, rfl⟩, by simp [intOf]; omega⟩
  ·obtain rfl : j = 4 := by omega
   go_wp2
   go_ret
   exact ⟨rfl, hB.trans (Below.drewN' _)⟩
theorem results_tmp4 {fn : Func} {t u v x : Tmp} (h : fn.results = #[.tmp t, .tmp u, .tmp v, .tmp x]) (tmps : Array Value) (P : Program) (w : World) :
  (results fn tmps).run P w = .ok (.tuple #[tmps.getD t undef, tmps.getD u undef, tmps.getD v undef, tmps.getD x undef]) w := by
 simp [results, h]
set_option maxRecDepth 100000 in
theorem four_ok (i : Nat) (hi : i < 8) (w : World) : Calls Tryz.prog 140 #[.int .i64 i] w fun e w' => e = .returned (.tuple #[.int .i64 (plA i : Nat), .int .i64 (plB i : Nat), .int .i64 (plC i : Nat), .int .i64 (plD i : Nat)]) ∧ w' = w := by
 rcases (show i = 0 ∨ i = 1 ∨ i = 2 ∨ i = 3 ∨ i = 4 ∨ i = 5 ∨ i = 6 ∨ i = 7 by omega) with rfl | rfl | rfl | rfl | rfl | rfl | rfl | rfl
 ·go_enter Tryz.func140, Tryz.ntmps140
  go_wp2
  exact bodyPost_ret (results_tmp4 rfl _ _ _) rfl ⟨rfl, rfl⟩
 ·go_enter Tryz.func140, Tryz.ntmps140
  go_wp2
  exact bodyPost_ret (results_tmp4 rfl _ _ _) rfl ⟨rfl, rfl⟩
 ·go_enter Tryz.func140, Tryz.ntmps140
  go_wp2
  exact bodyPost_ret (results_tmp4 rfl _ _ _) rfl ⟨rfl, rfl⟩
 ·go_enter Tryz.func140, Tryz.ntmps140
  go_wp2
  exact bodyPost_ret (results_tmp4 rfl _ _ _) rfl ⟨rfl, rfl⟩
 ·go_enter Tryz.func140, Tryz.ntmps140
  go_wp2
  exact bodyPost_ret (results_tmp4 rfl _ _ _) rfl ⟨rfl, rfl⟩
 ·go_enter Tryz.func140, Tryz.ntmps140
  go_wp2
  exact bodyPost_ret (results_tmp4 rfl _ _ _) rfl ⟨rfl, rfl⟩
 ·go_enter Tryz.func140, Tryz.ntmps140
  go_wp2
  exact bodyPost_ret (results_tmp4 rfl _ _ _) rfl ⟨rfl, rfl⟩
 ·go_enter Tryz.func140, Tryz.ntmps140
  go_wp2
  exact bodyPost_ret (results_tmp4 rfl _ _ _) rfl ⟨rfl, rfl⟩
set_option maxRecDepth 100000 in
set_option maxHeartbeats 1000000 in
theorem refG32 (L : List Int) (hL : Words 32 16 L) (pa pb pc pd : Nat) (ha : pa < 16) (hb : pb < 16) (hc : pc < 16) (hd : pd < 16) (hab : pa ≠ pb) (hac : pa ≠ pc) (had : pa ≠ pd) (hbc : pb ≠ pc) (hbd : pb ≠ pd) (hcd : pc ≠ pd)
  (x y : Int) (w : World) :
  Calls Tryz.prog 141 #[.agg (arrV .u32 L), .int .i64 pa, .int .i64 pb, .int .i64 pc, .int .i64 pd, .int .u32 x, .int .u32 y] w fun e w' => e = .returned (.tuple #[.agg (arrV .u32 (mixSmall.step L pa pb pc pd x y)), .int .i64 0]) ∧ Below w.heap.size w w' := by
 obtain ⟨b0, hb0⟩ : ∃ b0, w.heap.size = b0 := ⟨_, rfl⟩
 have hm : ∀ z, IntKind.u32.wrap z = z % 2 ^ 32 := fun z => IntKind.wrap_u32 z
 obtain ⟨A1, hA1⟩ : ∃ z, (wd L pa + wd L pb + x) % 4294967296 = z := ⟨_, rfl⟩
 obtain ⟨X1, hX1⟩ : ∃ z, bits BinOp.xor .u32 (wd L pd) A1 = z := ⟨_, rfl⟩
 obtain ⟨D1, hD1⟩ : ∃ z, rotR 32 16 X1 = z := ⟨_, rfl⟩
 obtain ⟨C1, hC1⟩ : ∃ z, (wd L pc + D1) % 4294967296 = z := ⟨_, rfl⟩
 obtain ⟨X2, hX2⟩ : ∃ z, bits BinOp.xor .u32 (wd L pb) C1 = z := ⟨_, rfl⟩
 obtain ⟨B1, hB1⟩ : ∃ z, rotR 32 12 X2 = z := ⟨_, rfl⟩
 obtain ⟨A2, hA2⟩ : ∃ z, (A1 + B1 + y) % 4294967296 = z := ⟨_, rfl⟩
 obtain ⟨X3, hX3⟩ : ∃ z, bits BinOp.xor .u32 D1 A2 = z := ⟨_, rfl⟩
 obtain ⟨D2, hD2⟩ : ∃ z, rotR 32 8 X3 = z := ⟨_, rfl⟩
 obtain ⟨C2, hC2⟩ : ∃ z, (C1 + D2) % 4294967296 = z := ⟨_, rfl⟩
 obtain ⟨X4, hX4⟩ : ∃ z, bits BinOp.xor .u32 B1 C2 = z := ⟨_, rfl⟩
 obtain ⟨B2, hB2⟩ : ∃ z, rotR 32 7 X4 = z := ⟨_, rfl⟩
 have R1 := Lib.hid (fun w => turn32_16 X1 w (hX1 ▸ bits_bound .xor .u32 32 hm _ _))
 have R2 := Lib.hid (fun w => turn32_12 X2 w (hX2 ▸ bits_bound .xor .u32 32 hm _ _))
 have R3 := Lib.hid (fun w => turn32_8 X3 w (hX3 ▸ bits_bound .xor .u32 32 hm _ _))
 have R4 := Lib.hid (fun w => turn32_7 X4 w (hX4 ▸ bits_bound .xor .u32 32 hm _ _))
 have ES : mixSmall.step L pa pb pc pd x y = (((L.set pa A2).set pd D2).set pc C2).set pb B2 := by
  have e1 : A1 = mixSmall.a1 (wd L pa) (wd L pb) x := by rw [← hA1]; rfl
  have e2 : D1 = mixSmall.d1 (wd L pa) (wd L pb) (wd L pd) x := by rw [← hD1, ← hX1, e1]; rfl
  have e3 : C1 = mixSmall.c1 (wd L pa) (wd L pb) (wd L pc) (wd L pd) x := by rw [← hC1, e2]; rfl
  have e4 : B1 = mixSmall.b1 (wd L pa) (wd L pb) (wd L pc) (wd L pd) x := by rw [← hB1, ← hX2, e3]; rfl
  have e5 : A2 = mixSmall.a2 (wd L pa) (wd L pb) (wd L pc) (wd L pd) x y := by rw [← hA2, e1, e4]; rfl
  have e6 : D2 = mixSmall.d2 (wd L pa) (wd L pb) (wd L pc) (wd L pd) x y := by rw [← hD2, ← hX3, e2, e5]; rfl
  have e7 : C2 = mixSmall.c2 (wd L pa) (wd L pb) (wd L pc) (wd L pd) x y := by rw [← hC2, e3, e6]; rfl
  have e8 : B2 = mixSmall.b2 (wd L pa) (wd L pb) (wd L pc) (wd L pd) x y := by rw [← hB2, ← hX4, e4, e7]; rfl
  rw [e5, e6, e7, e8]
  rfl
 have ES' := Lib.hid (show Ending.returned (.tuple #[.agg (arrV .u32 ((((L.set pa A2).set pd D2).set pc C2).set pb B2)), .int .i64 0]) = .returned (.tuple #[.agg (arrV .u32 (mixSmall.step L pa pb pc pd x y)), .int .i64 0]) by rw [ES])
 rw [hD1] at R1
 rw [hB1] at R2
 rw [hD2] at R3
 rw [hB2] at R4
 clear hD1 hB1 hD2 hB2 ES hm
 obtain ⟨va, hva⟩ : ∃ z, wd L pa = z := ⟨_, rfl⟩
 obtain ⟨vb, hvb⟩ : ∃ z, wd L pb = z := ⟨_, rfl⟩
 obtain ⟨vc, hvc⟩ : ∃ z, wd L pc = z := ⟨_, rfl⟩
 obtain ⟨vd, hvd⟩ : ∃ z, wd L pd = z := ⟨_, rfl⟩
 rw [hva, hvb] at hA1
 rw [hvd] at hX1
 rw [hvc] at hC1
 rw [hvb] at hX2
 have HVs := Lib.hid (And.intro hva (And.intro hvb (And.intro hvc hvd)))
 clear hva hvb hvc hvd
 have HN := Lib.hid (And.intro hab (And.intro hac (And.intro had (And.intro hbc (And.intro hbd hcd)))))
 go_enter Tryz.func141, Tryz.ntmps141
 go_wp2_with fail
 refine (places4_ok pa pb pc pd ha hb hc hd hab hac had hbc hbd hcd _).mono ?_; rintro r w1 ⟨rfl, hb1⟩
 clear hab hac had hbc hbd hcd
 go_wp2_with fail
 obtain ⟨hab, hac, had, hbc, hbd, hcd⟩ := HN.out
 refine letterW ?_
 intro W hW
 have hv : W.heap[b0]? = some (.cells (arrV .u32 L) 174 (0, 0)) := by
  rw [hW]; exact (hb1.block b0 (by simp; omega)).trans ((Below.heap_alloc _ _ _ (by simp; omega)).trans (World.alloc_new_at _ _ hb0.symm))
 have hr : W.heap[b0 + 1]? = some (.cells #[.int .u32 0, .int .u32 0, .int .u32 0, .int .u32 0, .int .u32 0, .int .u32 0, .int .u32 0, .int .u32 0, .int .u32 0, .int .u32 0, .int .u32 0, .int .u32 0, .int .u32 0, .int .u32 0, .int .u32 0, .int .u32 0] 174 (0, 0)) := by
  rw [hW]; exact (hb1.block (b0 + 1) (by simp; omega)).trans (World.alloc_new_at _ _ (by simp; omega))
 have hB : Below w.heap.size w W := by
  rw [hW]; exact (((Below.refl w.heap.size w).alloc (Nat.le_refl _) _).alloc (by simp) _).trans (hb1.mono (by simp; omega))
 clear hW hb1
 obtain ⟨hva, hvb, hvc, hvd⟩ := HVs.out
 have h0 : At4 .u32 b0 174 pa pb pc pd W L va vb vc vd W := ⟨hv, hL.1, hva, hvb, hvc, hvd, ⟨ha, hb, hc, hd⟩, ⟨hab, hac, had, hbc, hbd, hcd⟩, But.refl _ _⟩
 have HR := Lib.hid hr
 have HB := Lib.hid hB
 clear hv hr hB hva hvb hvc hvd HVs
 refine letterW ?_
 intro W0 hW
 have H0 := Lib.hid (h0.letter hW)
 obtain ⟨ca, cb, cc, cd, fb, hs⟩ := H0.out.facts
 clear hW h0
 refine wp_region_pop_q (by dsimp only [List.dropLast]) (by rfl) (by rfl) (by kernel_rfl) (by kernel_rfl) (by kernel_rfl) (by kernel_rfl) ?_
 repeat (go_big_quiet_step (fail))
 refine wpQuiet_nil ?_
 intro _ hw'
 obtain ⟨n0, rfl⟩ := hw'
 go_wp2_with fail
 clear ca cb cc cd fb hs
 have h1 := H0.out.setA n0 A1
 clear H0
 refine letterW ?_
 intro W1 hW
 have H1 := Lib.hid (h1.letter hW)
 obtain ⟨ca, cb, cc, cd, fb, hs⟩ := H1.out.facts
 clear hW h1
 refine wp_region_pop_q (by dsimp only [List.dropLast]) (by rfl) (by rfl) (by kernel_rfl) (by kernel_rfl) (by kernel_rfl) (by kernel_rfl) ?_
 repeat (go_big_quiet_step (exact Calls.quiet_of_same (R1.out _)))
 refine wpQuiet_nil ?_
 intro _ hw'
 obtain ⟨n1, rfl⟩ := hw'
 go_wp2_with fail
 clear ca cb cc cd fb hs
 have h2 := H1.out.setD n1 D1
 clear H1
 refine letterW ?_
 intro W2 hW
 have H2 := Lib.hid (h2.letter hW)
 obtain ⟨ca, cb, cc, cd, fb, hs⟩ := H2.out.facts
 clear hW h2
 refine wp_region_pop_q (by dsimp only [List.dropLast]) (by rfl) (by rfl) (by kernel_rfl) (by kernel_rfl) (by kernel_rfl) (by kernel_rfl) ?_
 repeat (go_big_quiet_step (fail))
 refine wpQuiet_nil ?_
 intro _ hw'
 obtain ⟨n2, rfl⟩ := hw'
 go_wp2_with fail
 clear ca cb cc cd fb hs
 have h3 := H2.out.setC n2 C1
 clear H2
 refine letterW ?_
 intro W3 hW
 have H3 := Lib.hid (h3.letter hW)
 obtain ⟨ca, cb, cc, cd, fb, hs⟩ := H3.out.facts
 clear hW h3
 refine wp_region_pop_q (by dsimp only [List.dropLast]) (by rfl) (by rfl) (by kernel_rfl) (by kernel_rfl) (by kernel_rfl) (by kernel_rfl) ?_
 repeat (go_big_quiet_step (exact Calls.quiet_of_same (R2.out _)))
 refine wpQuiet_nil ?_
 intro _ hw'
 obtain ⟨n3, rfl⟩ := hw'
 go_wp2_with fail
 clear ca cb cc cd fb hs
 have h4 := H3.out.setB n3 B1
 clear H3
 refine letterW ?_
 intro W4 hW
 have H4 := Lib.hid (h4.letter hW)
 obtain ⟨ca, cb, cc, cd, fb, hs⟩ := H4.out.facts
 clear hW h4
 refine wp_region_pop_q (by dsimp only [List.dropLast]) (by rfl) (by rfl) (by kernel_rfl) (by kernel_rfl) (by kernel_rfl) (by kernel_rfl) ?_
 repeat (go_big_quiet_step (fail))
 refine wpQuiet_nil ?_
 intro _ hw'
 obtain ⟨n4, rfl⟩ := hw'
 go_wp2_with fail
 clear ca cb cc cd fb hs
 have h5 := H4.out.setA n4 A2
 clear H4
 refine letterW ?_
 intro W5 hW
 have H5 := Lib.hid (h5.letter hW)
 obtain ⟨ca, cb, cc, cd, fb, hs⟩ := H5.out.facts
 clear hW h5
 refine wp_region_pop_q (by dsimp only [List.dropLast]) (by rfl) (by rfl) (by kernel_rfl) (by kernel_rfl) (by kernel_rfl) (by kernel_rfl) ?_
 repeat (go_big_quiet_step (exact Calls.quiet_of_same (R3.out _)))
 refine wpQuiet_nil ?_
 intro _ hw'
 obtain ⟨n5, rfl⟩ := hw'
 go_wp2_with fail
 clear ca cb cc cd fb hs
 have h6 := H5.out.setD n5 D2
 clear H5
 refine letterW ?_
 intro W6 hW
 have H6 := Lib.hid (h6.letter hW)
 obtain ⟨ca, cb, cc, cd, fb, hs⟩ := H6.out.facts
 clear hW h6
 refine wp_region_pop_q (by dsimp only [List.dropLast]) (by rfl) (by rfl) (by kernel_rfl) (by kernel_rfl) (by kernel_rfl) (by kernel_rfl) ?_
 repeat (go_big_quiet_step (fail))
 refine wpQuiet_nil ?_
 intro _ hw'
 obtain ⟨n6, rfl⟩ := hw'
 go_wp2_with fail
 clear ca cb cc cd fb hs
 have h7 := H6.out.setC n6 C2
 clear H6
 refine letterW ?_
 intro W7 hW
 have H7 := Lib.hid (h7.letter hW)
 obtain ⟨ca, cb, cc, cd, fb, hs⟩ := H7.out.facts
 clear hW h7
 refine wp_region_pop_q (by dsimp only [List.dropLast]) (by rfl) (by rfl) (by kernel_rfl) (by kernel_rfl) (by kernel_rfl) (by kernel_rfl) ?_
 repeat (go_big_quiet_step (exact Calls.quiet_of_same (R4.out _)))
 refine wpQuiet_nil ?_
 intro _ hw'
 obtain ⟨n7, rfl⟩ := hw'
 go_upto_region 11 with (fail)
 clear ca cb cc cd fb hs
 have h8 := H7.out.setB n7 B2
 clear H7
 have hs8 : ((((L.set pa A2).set pd D2).set pc C2).set pb B2).length = 16 := by simpa using hL.1
 have hr8 := (h8.but.block (b0 + 1) (Array.getElem?_eq_some_iff.1 HR.out).1 (by omega)).trans HR.out
 have hh8 := h8.heap
 have HB8 := Lib.hid (HB.out.trans (h8.but.below (by omega) HB.out.size))
 rw [set4 hab hac had hbc hbd hcd] at hh8
 generalize (((L.set pa A2).set pd D2).set pc C2).set pb B2 = L8 at *
 clear h8
 apply wp_region_lit
 refine wpList_load_row rfl 174 _ rfl b0 rfl _ _ _ _ hh8 Tryz.underlying174 rfl (by rw [arrV_size, hs8]; kernel_rfl) ?_
 refine wpList_store_row rfl 174 _ _ rfl (b0 + 1) (arrV .u32 L8) rfl rfl 174 _ hr8 (by rw [arrV_size, hs8]; kernel_rfl) (by rw [arrV_size, hs8]; rfl) arrV_all ?_
 simp only [Act.put, List.setIfInBounds_toArray, List.set_cons_zero, List.set_cons_succ]
 go_wp2_with fail
 exact bodyPost_ret (results_row_tmp rfl _ _ _ _ _ _ _ rfl (setRow_heap _ _ _ _ _ _ hr8) Tryz.underlying174 rfl (by rw [arrV_size, hs8]; kernel_rfl)) rfl ⟨Eq.trans (b := .returned (.tuple #[.agg (arrV .u32 L8), .int .i64 0])) rfl ES'.out, below_setRow (HB8.out.mono (by omega)) (by omega) _⟩
end Go.Proofs.YtjogmckaakkomaaGreat
