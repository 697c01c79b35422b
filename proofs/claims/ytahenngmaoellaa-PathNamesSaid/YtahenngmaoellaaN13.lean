/- A round of the mixing, by the program, both kinds. No condition. -/
import Derived.Test.YtahenngmaoellaaN12
set_option linter.all false
set_option maxRecDepth 100000
set_option maxHeartbeats 8000000
namespace Go.Proofs.Ytahenngmaoellaa
open Go.ChangeShapes Go.WideShapes Go.ChangeAt Go.RowKit Go.Joins
open Go.Lib (hid)
attribute [local go_sem] Oper.semAt_some
theorem run_index_arr {P : Program} {w : World} (t : TypeId) (cs : Array Value) (k : IntKind) (i : Int) (h : P.underlying t = some (.array (P.arrayLen t) (P.elem t))) :
  (Instr.index t (.agg cs) (.int k i)).run P w = if 0 ≤ i ∧ i < P.arrayLen t then ((sizeOf (P.elem t)).run P w).andThen fun s w => (part (P.elem t) cs (i.toNat * s)).run P w else (boundsPanic k i (P.arrayLen t) .index).run P w := by
 simp only [Instr.index, Sem.run_bind, run_underlying h, asIntOf, Sem.run_pure, Result.andThen_ok]
 split <;> simp
attribute [local go_sem] run_index_arr
structure MixOk (K : MixK) : Prop where
 wrap : ∀ z, K.k.wrap z = z % 2 ^ K.n
 r2 : K.r2 ≤ K.n
 r1 : K.r1 ≤ K.n
 r3 : K.r3 ≤ K.n
 r4 : K.r4 ≤ K.n
theorem mixBig_ok : MixOk mixBig := ⟨fun z => IntKind.wrap_u64 z, by decide, by decide, by decide, by decide⟩
theorem mixSmall_ok : MixOk mixSmall := ⟨fun z => IntKind.wrap_u32 z, by decide, by decide, by decide, by decide⟩
theorem step_words {K : MixK} (hK : MixOk K) {L : List Int} (hL : Words K.n 16 L) (a b c d : Nat) (x y : Int) : Words K.n 16 (K.step L a b c d x y) := by
 unfold MixK.step
 refine Words.set (Words.set (Words.set (Words.set hL ?_) ?_) ?_) ?_
 ·exact Words.emod _ _
 ·exact rotR_bounds hK.r3 (bits_bound _ _ _ hK.wrap _ _)
 ·exact Words.emod _ _
 ·exact rotR_bounds hK.r4 (bits_bound _ _ _ hK.wrap _ _)
theorem turns_words {K : MixK} (hK : MixOk K) {L M : List Int} (hL : Words K.n 16 L) (r : Nat) : ∀ i, Words K.n 16 (K.turns L M r i)
 | 0 => hL
 | i + 1 => step_words hK (turns_words hK hL r i) _ _ _ _ _ _
theorem rounds_words {K : MixK} (hK : MixOk K) {L M : List Int} (hL : Words K.n 16 L) : ∀ i, Words K.n 16 (K.rounds L M i)
 | 0 => hL
 | i + 1 => turns_words hK (rounds_words hK hL i) _ _
theorem sigma_lit (r : Nat) (hr : r < 12) (w : World) : Calls Try.prog 78 #[.int .i64 r] w fun e w' => e = .returned (.agg #[.int .i64 (sigN r 0 : Nat), .int .i64 (sigN r 1 : Nat), .int .i64 (sigN r 2 : Nat), .int .i64 (sigN r 3 : Nat), .int .i64 (sigN r 4 : Nat), .int .i64 (sigN r 5 : Nat), .int .i64 (sigN r 6 : Nat), .int .i64 (sigN r 7 : Nat), .int .i64 (sigN r 8 : Nat), .int .i64 (sigN r 9 : Nat), .int .i64 (sigN r 10 : Nat), .int .i64 (sigN r 11 : Nat), .int .i64 (sigN r 12 : Nat), .int .i64 (sigN r 13 : Nat), .int .i64 (sigN r 14 : Nat), .int .i64 (sigN r 15 : Nat)]) ∧ Below w.heap.size w w' := by
 have hl : ∀ r < 12, [sigN r 0, sigN r 1, sigN r 2, sigN r 3, sigN r 4, sigN r 5, sigN r 6, sigN r 7, sigN r 8, sigN r 9, sigN r 10, sigN r 11, sigN r 12, sigN r 13, sigN r 14, sigN r 15] = sigR r := by decide +kernel
 refine (sigma_any r hr w).mono ?_
 rintro e w' ⟨rfl, hb⟩
 exact ⟨by rw [← hl r hr]; rfl, hb⟩
theorem places_lit (w : World) : Calls Try.prog 79 #[] w fun e w' => e = .returned (.agg #[.int .i64 0, .int .i64 4, .int .i64 8, .int .i64 12, .int .i64 1, .int .i64 5, .int .i64 9, .int .i64 13, .int .i64 2, .int .i64 6, .int .i64 10, .int .i64 14, .int .i64 3, .int .i64 7, .int .i64 11, .int .i64 15, .int .i64 0, .int .i64 5, .int .i64 10, .int .i64 15, .int .i64 1, .int .i64 6, .int .i64 11, .int .i64 12, .int .i64 2, .int .i64 7, .int .i64 8, .int .i64 13, .int .i64 3, .int .i64 4, .int .i64 9, .int .i64 14]) ∧ Below w.heap.size w w' := by
 refine (places_any w).mono ?_
 rintro e w' ⟨rfl, hb⟩
 exact ⟨rfl, hb⟩
theorem places32_any (w : World) : Calls Try.prog 81 #[] w fun e w' => e = .returned (.agg plaTab) ∧ Below w.heap.size w w' := by
 go_enter Try.func81, Try.ntmps81
 go_upto_region 1 with (fail)
 apply wp_region_lit
 refine wpList_buildTo rfl 161 _ rfl (some 1) rfl (natV (plaR 0)) (by kernel_rfl) ?_
 simp only [Act.put, List.setIfInBounds_toArray, List.set_cons_zero, List.set_cons_succ]
 refine wpList_buildTo rfl 161 _ rfl (some 2) rfl (natV (plaR 1)) (by kernel_rfl) ?_
 simp only [Act.put, List.setIfInBounds_toArray, List.set_cons_zero, List.set_cons_succ]
 refine wpList_buildTo rfl 161 _ rfl (some 3) rfl (natV (plaR 2)) (by kernel_rfl) ?_
 simp only [Act.put, List.setIfInBounds_toArray, List.set_cons_zero, List.set_cons_succ]
 refine wpList_buildTo rfl 161 _ rfl (some 4) rfl (natV (plaR 3)) (by kernel_rfl) ?_
 simp only [Act.put, List.setIfInBounds_toArray, List.set_cons_zero, List.set_cons_succ]
 refine wpList_buildTo rfl 161 _ rfl (some 5) rfl (natV (plaR 4)) (by kernel_rfl) ?_
 simp only [Act.put, List.setIfInBounds_toArray, List.set_cons_zero, List.set_cons_succ]
 refine wpList_buildTo rfl 161 _ rfl (some 6) rfl (natV (plaR 5)) (by kernel_rfl) ?_
 simp only [Act.put, List.setIfInBounds_toArray, List.set_cons_zero, List.set_cons_succ]
 refine wpList_buildTo rfl 161 _ rfl (some 7) rfl (natV (plaR 6)) (by kernel_rfl) ?_
 simp only [Act.put, List.setIfInBounds_toArray, List.set_cons_zero, List.set_cons_succ]
 refine wpList_buildTo rfl 161 _ rfl (some 8) rfl (natV (plaR 7)) (by kernel_rfl) ?_
 simp only [Act.put, List.setIfInBounds_toArray, List.set_cons_zero, List.set_cons_succ]
 refine wpList_buildTo rfl 162 _ rfl (some 9) rfl plaTab (by kernel_rfl) ?_
 simp only [Act.put, List.setIfInBounds_toArray, List.set_cons_zero, List.set_cons_succ]
 refine wpList_store_row rfl 162 _ _ rfl w.heap.size plaTab rfl rfl 162 _ (World.alloc_heap_new _ _) (by kernel_rfl) (by kernel_rfl) (by kernel_rfl) ?_
 simp only [Act.put, List.setIfInBounds_toArray, List.set_cons_zero, List.set_cons_succ]
 go_wp2_with fail
 exact bodyPost_ret (results_cell_row rfl _ _ _ _ _ _ _ rfl (setRow_heap _ _ _ _ _ _ (World.alloc_heap_new _ _)) Try.underlying162 rfl (by kernel_rfl)) rfl ⟨rfl, ((Below.refl w.heap.size w).alloc (Nat.le_refl _) _).trans ⟨rfl, rfl, rfl, by simp, fun g hg => setRow_other _ _ _ _ (by omega)⟩⟩
theorem places32_lit (w : World) : Calls Try.prog 81 #[] w fun e w' => e = .returned (.agg #[.int .i64 0, .int .i64 4, .int .i64 8, .int .i64 12, .int .i64 1, .int .i64 5, .int .i64 9, .int .i64 13, .int .i64 2, .int .i64 6, .int .i64 10, .int .i64 14, .int .i64 3, .int .i64 7, .int .i64 11, .int .i64 15, .int .i64 0, .int .i64 5, .int .i64 10, .int .i64 15, .int .i64 1, .int .i64 6, .int .i64 11, .int .i64 12, .int .i64 2, .int .i64 7, .int .i64 8, .int .i64 13, .int .i64 3, .int .i64 4, .int .i64 9, .int .i64 14]) ∧ Below w.heap.size w w' := by
 refine (places32_any w).mono ?_
 rintro e w' ⟨rfl, hb⟩
 exact ⟨rfl, hb⟩
theorem below_alloc_then' {w w1 : World} (o : Obj) (hb : Below (w.alloc o).heap.size (w.alloc o) w1) : Below w.heap.size w w1 :=
 (Below.alloc (Below.refl _ _) (Nat.le_refl _) o).trans (hb.mono (by simp))
theorem But.of_below' {b : Nat} {w w' : World} (h : Below w.heap.size w w') : But b w w' := ⟨h.os, h.tape, h.output, h.size, fun g hg _ => h.block g hg⟩
theorem turn_any64 (bv bm : Nat) (hne : bm ≠ bv) (L M : List Int) (hL : Words 64 16 L) (hM : Words 64 16 M) (r : Nat) (hr : r < 12) (Tv Tm : TypeId) (w : World) (hv : w.heap[bv]? = some (.cells (arrV .u64 L) Tv (0, 0))) (hm : w.heap[bm]? = some (.cells (arrV .u64 M) Tm (0, 0))) :
  Calls Try.prog 73 #[.pointer (some ⟨bv, 0, none⟩), .pointer (some ⟨bm, 0, none⟩), .int .i64 r] w fun e w' => e = .returned (.tuple #[]) ∧ w'.heap[bv]? = some (.cells (arrV .u64 (mixBig.round L M r)) Tv (0, 0)) ∧ But bv w w' := by
 have hvs : bv < w.heap.size := (Array.getElem?_eq_some_iff.1 hv).1
 have hms : bm < w.heap.size := (Array.getElem?_eq_some_iff.1 hm).1
 have HV := hid hv
 have HM := hid hm
 have HC := hid (sigma_lit r hr)
 clear hv hm
 go_enter Try.func73, Try.ntmps73
 go_wp2_with fail
 refine (HC.out _).mono ?_; rintro e1 w1 ⟨rfl, hb1⟩
 have HB1 := hid hb1
 have hs1 := hb1.size
 clear hb1 HC
 go_wp2_with fail
 refine (places_lit _).mono ?_; rintro e2 w2 ⟨rfl, hb2⟩
 obtain ⟨bs, hbs⟩ : ∃ bs, w1.heap.size = bs := ⟨_, rfl⟩
 have hS : w2.heap[bs]? = _ := (hb2.block bs (by simp; omega)).trans (World.alloc_new_at w1 _ hbs.symm)
 have hV : w2.heap[bv]? = _ := (hb2.block bv (by simp; omega)).trans ((Below.heap_alloc _ _ _ (by omega)).trans ((HB1.out.block bv hvs).trans HV.out))
 have hM2 : w2.heap[bm]? = _ := (hb2.block bm (by simp; omega)).trans ((Below.heap_alloc _ _ _ (by omega)).trans ((HB1.out.block bm hms).trans HM.out))
 have HB2 := hid (HB1.out.trans ((below_alloc_then' _ hb2).mono hs1))
 have hs2 : bs < w2.heap.size := by have := hb2.size; simp at this; omega
 have hvb : bs ≠ bv := by omega
 rw [hbs]
 clear hb2 HB1 hbs hs1 HV HM
 have HS := hid hS
 have HM := hid hM2
 have HV := hid hV
 clear hS hV hM2
 have hms2 : bm < w2.heap.size := by have := HB2.out.size; omega
 have hvs2 : bv < w2.heap.size := by have := HB2.out.size; omega
 go_wp2_with fail
 go_loopw [12] (fun i wr => ∃ j : Nat, i = .int .i64 j ∧ j ≤ 8 ∧ wr.heap[bv]? = some (.cells (arrV .u64 (mixBig.turns L M r j)) Tv (0, 0)) ∧ But bv w2 wr) (fun i _ => 8 - (intOf i).toNat)
 case atStart => exact ⟨0, rfl, Nat.zero_le _, HV.out, But.refl _ _⟩
 case round =>
  obtain ⟨j, rfl, hj, hV, hB⟩ := hrel
  have hsz := hB.size
  have q1 : bs < wr.heap.size := by omega
  have q2 : bm < wr.heap.size := by omega
  have q3 : bv < wr.heap.size := by omega
  have hSr := (hB.block bs hs2 hvb).trans HS.out
  have hMr := (hB.block bm hms2 hne).trans HM.out
  obtain ⟨cS, fS⟩ := rowFacts hSr
  have HVr := hid hV
  have HBr := hid hB
  clear hV hSr hB
  by_cases hlt : j < 8
  ·rcases (show j = 0 ∨ j = 1 ∨ j = 2 ∨ j = 3 ∨ j = 4 ∨ j = 5 ∨ j = 6 ∨ j = 7 by omega) with rfl | rfl | rfl | rfl | rfl | rfl | rfl | rfl
   ·have sx := sigN_lt r 0
    have sy := sigN_lt r 1
    have cx : wr.cell? ⟨bm, sigN r 0, none⟩ = some (.int .u64 (wd M (sigN r 0))) := (cellOfRow hMr _).trans (arrV_at hM sx)
    have cy : wr.cell? ⟨bm, sigN r 1, none⟩ = some (.int .u64 (wd M (sigN r 1))) := (cellOfRow hMr _).trans (arrV_at hM sy)
    have cs0 : wr.cell? ⟨bs, 0, none⟩ = some (.int .i64 (sigN r 0 : Nat)) := cS 0
    have cs1 : wr.cell? ⟨bs, 1, none⟩ = some (.int .i64 (sigN r 1 : Nat)) := cS 1
    clear hMr cS
    go_wp2_with fail
    refine wp_region_pop_q (by dsimp only [List.dropLast]) (by rfl) (by rfl) (by kernel_rfl) (by kernel_rfl) (by kernel_rfl) (by kernel_rfl) ?_
    repeat (go_big_quiet_step (fail))
    refine wpQuiet_nil ?_
    intro _ hw'
    obtain ⟨n1, rfl⟩ := hw'
    go_wp2_with fail
    refine (step64_any bv (mixBig.turns L M r 0) (turns_words mixBig_ok hL r 0) 0 4 8 12 (by decide) (by decide) (by decide) (by decide) (by decide) (by decide) (by decide) (by decide) (by decide) (by decide) _ _ Tv ((wr.alloc _).drewN n1) ((Below.heap_alloc _ _ _ (by omega)).trans HVr.out)).mono ?_
    rintro e3 w3 ⟨rfl, hh3, hb3⟩
    have H3 := hid hh3
    have HB3 := hid (((HBr.out.alloc _).drewN _).trans hb3)
    clear hh3 hb3
    go_wp2
    exact ⟨⟨1, rfl, by decide, H3.out, HB3.out⟩, by simp [intOf]⟩
   ·have sx := sigN_lt r 2
    have sy := sigN_lt r 3
    have cx : wr.cell? ⟨bm, sigN r 2, none⟩ = some (.int .u64 (wd M (sigN r 2))) := (cellOfRow hMr _).trans (arrV_at hM sx)
    have cy : wr.cell? ⟨bm, sigN r 3, none⟩ = some (.int .u64 (wd M (sigN r 3))) := (cellOfRow hMr _).trans (arrV_at hM sy)
    have cs0 : wr.cell? ⟨bs, 2, none⟩ = some (.int .i64 (sigN r 2 : Nat)) := cS 2
    have cs1 : wr.cell? ⟨bs, 3, none⟩ = some (.int .i64 (sigN r 3 : Nat)) := cS 3
    clear hMr cS
    go_wp2_with fail
    refine wp_region_pop_q (by dsimp only [List.dropLast]) (by rfl) (by rfl) (by kernel_rfl) (by kernel_rfl) (by kernel_rfl) (by kernel_rfl) ?_
    repeat (go_big_quiet_step (fail))
    refine wpQuiet_nil ?_
    intro _ hw'
    obtain ⟨n1, rfl⟩ := hw'
    go_wp2_with fail
    refine (step64_any bv (mixBig.turns L M r 1) (turns_words mixBig_ok hL r 1) 1 5 9 13 (by decide) (by decide) (by decide) (by decide) (by decide) (by decide) (by decide) (by decide) (by decide) (by decide) _ _ Tv ((wr.alloc _).drewN n1) ((Below.heap_alloc _ _ _ (by omega)).trans HVr.out)).mono ?_
    rintro e3 w3 ⟨rfl, hh3, hb3⟩
    have H3 := hid hh3
    have HB3 := hid (((HBr.out.alloc _).drewN _).trans hb3)
    clear hh3 hb3
    go_wp2
    exact ⟨⟨2, rfl, by decide, H3.out, HB3.out⟩, by simp [intOf]⟩
   ·have sx := sigN_lt r 4
    have sy := sigN_lt r 5
    have cx : wr.cell? ⟨bm, sigN r 4, none⟩ = some (.int .u64 (wd M (sigN r 4))) := (cellOfRow hMr _).trans (arrV_at hM sx)
    have cy : wr.cell? ⟨bm, sigN r 5, none⟩ = some (.int .u64 (wd M (sigN r 5))) := (cellOfRow hMr _).trans (arrV_at hM sy)
    have cs0 : wr.cell? ⟨bs, 4, none⟩ = some (.int .i64 (sigN r 4 : Nat)) := cS 4
    have cs1 : wr.cell? ⟨bs, 5, none⟩ = some (.int .i64 (sigN r 5 : Nat)) := cS 5
    clear hMr cS
    go_wp2_with fail
    refine wp_region_pop_q (by dsimp only [List.dropLast]) (by rfl) (by rfl) (by kernel_rfl) (by kernel_rfl) (by kernel_rfl) (by kernel_rfl) ?_
    repeat (go_big_quiet_step (fail))
    refine wpQuiet_nil ?_
    intro _ hw'
    obtain ⟨n1, rfl⟩ := hw'
    go_wp2_with fail
    refine (step64_any bv (mixBig.turns L M r 2) (turns_words mixBig_ok hL r 2) 2 6 10 14 (by decide) (by decide) (by decide) (by decide) (by decide) (by decide) (by decide) (by decide) (by decide) (by decide) _ _ Tv ((wr.alloc _).drewN n1) ((Below.heap_alloc _ _ _ (by omega)).trans HVr.out)).mono ?_
    rintro e3 w3 ⟨rfl, hh3, hb3⟩
    have H3 := hid hh3
    have HB3 := hid (((HBr.out.alloc _).drewN _).trans hb3)
    clear hh3 hb3
    go_wp2
    exact ⟨⟨3, rfl, by decide, H3.out, HB3.out⟩, by simp [intOf]⟩
   ·have sx := sigN_lt r 6
    have sy := sigN_lt r 7
    have cx : wr.cell? ⟨bm, sigN r 6, none⟩ = some (.int .u64 (wd M (sigN r 6))) := (cellOfRow hMr _).trans (arrV_at hM sx)
    have cy : wr.cell? ⟨bm, sigN r 7, none⟩ = some (.int .u64 (wd M (sigN r 7))) := (cellOfRow hMr _).trans (arrV_at hM sy)
    have cs0 : wr.cell? ⟨bs, 6, none⟩ = some (.int .i64 (sigN r 6 : Nat)) := cS 6
    have cs1 : wr.cell? ⟨bs, 7, none⟩ = some (.int .i64 (sigN r 7 : Nat)) := cS 7
    clear hMr cS
    go_wp2_with fail
    refine wp_region_pop_q (by dsimp only [List.dropLast]) (by rfl) (by rfl) (by kernel_rfl) (by kernel_rfl) (by kernel_rfl) (by kernel_rfl) ?_
    repeat (go_big_quiet_step (fail))
    refine wpQuiet_nil ?_
    intro _ hw'
    obtain ⟨n1, rfl⟩ := hw'
    go_wp2_with fail
    refine (step64_any bv (mixBig.turns L M r 3) (turns_words mixBig_ok hL r 3) 3 7 11 15 (by decide) (by decide) (by decide) (by decide) (by decide) (by decide) (by decide) (by decide) (by decide) (by decide) _ _ Tv ((wr.alloc _).drewN n1) ((Below.heap_alloc _ _ _ (by omega)).trans HVr.out)).mono ?_
    rintro e3 w3 ⟨rfl, hh3, hb3⟩
    have H3 := hid hh3
    have HB3 := hid (((HBr.out.alloc _).drewN _).trans hb3)
    clear hh3 hb3
    go_wp2
    exact ⟨⟨4, rfl, by decide, H3.out, HB3.out⟩, by simp [intOf]⟩
   ·have sx := sigN_lt r 8
    have sy := sigN_lt r 9
    have cx : wr.cell? ⟨bm, sigN r 8, none⟩ = some (.int .u64 (wd M (sigN r 8))) := (cellOfRow hMr _).trans (arrV_at hM sx)
    have cy : wr.cell? ⟨bm, sigN r 9, none⟩ = some (.int .u64 (wd M (sigN r 9))) := (cellOfRow hMr _).trans (arrV_at hM sy)
    have cs0 : wr.cell? ⟨bs, 8, none⟩ = some (.int .i64 (sigN r 8 : Nat)) := cS 8
    have cs1 : wr.cell? ⟨bs, 9, none⟩ = some (.int .i64 (sigN r 9 : Nat)) := cS 9
    clear hMr cS
    go_wp2_with fail
    refine wp_region_pop_q (by dsimp only [List.dropLast]) (by rfl) (by rfl) (by kernel_rfl) (by kernel_rfl) (by kernel_rfl) (by kernel_rfl) ?_
    repeat (go_big_quiet_step (fail))
    refine wpQuiet_nil ?_
    intro _ hw'
    obtain ⟨n1, rfl⟩ := hw'
    go_wp2_with fail
    refine (step64_any bv (mixBig.turns L M r 4) (turns_words mixBig_ok hL r 4) 0 5 10 15 (by decide) (by decide) (by decide) (by decide) (by decide) (by decide) (by decide) (by decide) (by decide) (by decide) _ _ Tv ((wr.alloc _).drewN n1) ((Below.heap_alloc _ _ _ (by omega)).trans HVr.out)).mono ?_
    rintro e3 w3 ⟨rfl, hh3, hb3⟩
    have H3 := hid hh3
    have HB3 := hid (((HBr.out.alloc _).drewN _).trans hb3)
    clear hh3 hb3
    go_wp2
    exact ⟨⟨5, rfl, by decide, H3.out, HB3.out⟩, by simp [intOf]⟩
   ·have sx := sigN_lt r 10
    have sy := sigN_lt r 11
    have cx : wr.cell? ⟨bm, sigN r 10, none⟩ = some (.int .u64 (wd M (sigN r 10))) := (cellOfRow hMr _).trans (arrV_at hM sx)
    have cy : wr.cell? ⟨bm, sigN r 11, none⟩ = some (.int .u64 (wd M (sigN r 11))) := (cellOfRow hMr _).trans (arrV_at hM sy)
    have cs0 : wr.cell? ⟨bs, 10, none⟩ = some (.int .i64 (sigN r 10 : Nat)) := cS 10
    have cs1 : wr.cell? ⟨bs, 11, none⟩ = some (.int .i64 (sigN r 11 : Nat)) := cS 11
    clear hMr cS
    go_wp2_with fail
    refine wp_region_pop_q (by dsimp only [List.dropLast]) (by rfl) (by rfl) (by kernel_rfl) (by kernel_rfl) (by kernel_rfl) (by kernel_rfl) ?_
    repeat (go_big_quiet_step (fail))
    refine wpQuiet_nil ?_
    intro _ hw'
    obtain ⟨n1, rfl⟩ := hw'
    go_wp2_with fail
    refine (step64_any bv (mixBig.turns L M r 5) (turns_words mixBig_ok hL r 5) 1 6 11 12 (by decide) (by decide) (by decide) (by decide) (by decide) (by decide) (by decide) (by decide) (by decide) (by decide) _ _ Tv ((wr.alloc _).drewN n1) ((Below.heap_alloc _ _ _ (by omega)).trans HVr.out)).mono ?_
    rintro e3 w3 ⟨rfl, hh3, hb3⟩
    have H3 := hid hh3
    have HB3 := hid (((HBr.out.alloc _).drewN _).trans hb3)
    clear hh3 hb3
    go_wp2
    exact ⟨⟨6, rfl, by decide, H3.out, HB3.out⟩, by simp [intOf]⟩
   ·have sx := sigN_lt r 12
    have sy := sigN_lt r 13
    have cx : wr.cell? ⟨bm, sigN r 12, none⟩ = some (.int .u64 (wd M (sigN r 12))) := (cellOfRow hMr _).trans (arrV_at hM sx)
    have cy : wr.cell? ⟨bm, sigN r 13, none⟩ = some (.int .u64 (wd M (sigN r 13))) := (cellOfRow hMr _).trans (arrV_at hM sy)
    have cs0 : wr.cell? ⟨bs, 12, none⟩ = some (.int .i64 (sigN r 12 : Nat)) := cS 12
    have cs1 : wr.cell? ⟨bs, 13, none⟩ = some (.int .i64 (sigN r 13 : Nat)) := cS 13
    clear hMr cS
    go_wp2_with fail
    refine wp_region_pop_q (by dsimp only [List.dropLast]) (by rfl) (by rfl) (by kernel_rfl) (by kernel_rfl) (by kernel_rfl) (by kernel_rfl) ?_
    repeat (go_big_quiet_step (fail))
    refine wpQuiet_nil ?_
    intro _ hw'
    obtain ⟨n1, rfl⟩ := hw'
    go_wp2_with fail
    refine (step64_any bv (mixBig.turns L M r 6) (turns_words mixBig_ok hL r 6) 2 7 8 13 (by decide) (by decide) (by decide) (by decide) (by decide) (by decide) (by decide) (by decide) (by decide) (by decide) _ _ Tv ((wr.alloc _).drewN n1) ((Below.heap_alloc _ _ _ (by omega)).trans HVr.out)).mono ?_
    rintro e3 w3 ⟨rfl, hh3, hb3⟩
    have H3 := hid hh3
    have HB3 := hid (((HBr.out.alloc _).drewN _).trans hb3)
    clear hh3 hb3
    go_wp2
    exact ⟨⟨7, rfl, by decide, H3.out, HB3.out⟩, by simp [intOf]⟩
   ·have sx := sigN_lt r 14
    have sy := sigN_lt r 15
    have cx : wr.cell? ⟨bm, sigN r 14, none⟩ = some (.int .u64 (wd M (sigN r 14))) := (cellOfRow hMr _).trans (arrV_at hM sx)
    have cy : wr.cell? ⟨bm, sigN r 15, none⟩ = some (.int .u64 (wd M (sigN r 15))) := (cellOfRow hMr _).trans (arrV_at hM sy)
    have cs0 : wr.cell? ⟨bs, 14, none⟩ = some (.int .i64 (sigN r 14 : Nat)) := cS 14
    have cs1 : wr.cell? ⟨bs, 15, none⟩ = some (.int .i64 (sigN r 15 : Nat)) := cS 15
    clear hMr cS
    go_wp2_with fail
    refine wp_region_pop_q (by dsimp only [List.dropLast]) (by rfl) (by rfl) (by kernel_rfl) (by kernel_rfl) (by kernel_rfl) (by kernel_rfl) ?_
    repeat (go_big_quiet_step (fail))
    refine wpQuiet_nil ?_
    intro _ hw'
    obtain ⟨n1, rfl⟩ := hw'
    go_wp2_with fail
    refine (step64_any bv (mixBig.turns L M r 7) (turns_words mixBig_ok hL r 7) 3 4 9 14 (by decide) (by decide) (by decide) (by decide) (by decide) (by decide) (by decide) (by decide) (by decide) (by decide) _ _ Tv ((wr.alloc _).drewN n1) ((Below.heap_alloc _ _ _ (by omega)).trans HVr.out)).mono ?_
    rintro e3 w3 ⟨rfl, hh3, hb3⟩
    have H3 := hid hh3
    have HB3 := hid (((HBr.out.alloc _).drewN _).trans hb3)
    clear hh3 hb3
    go_wp2
    exact ⟨⟨8, rfl, by decide, H3.out, HB3.out⟩, by simp [intOf]⟩
  ·obtain rfl : j = 8 := by omega
   go_wp2
   exact bodyPost_end (results_none rfl _ _ _) rfl ⟨rfl, HVr.out, (But.of_below' HB2.out).trans HBr.out⟩
theorem turn_any32 (bv bm : Nat) (hne : bm ≠ bv) (L M : List Int) (hL : Words 32 16 L) (hM : Words 32 16 M) (r : Nat) (hr : r < 12) (Tv Tm : TypeId) (w : World) (hv : w.heap[bv]? = some (.cells (arrV .u32 L) Tv (0, 0))) (hm : w.heap[bm]? = some (.cells (arrV .u32 M) Tm (0, 0))) :
  Calls Try.prog 76 #[.pointer (some ⟨bv, 0, none⟩), .pointer (some ⟨bm, 0, none⟩), .int .i64 r] w fun e w' => e = .returned (.tuple #[]) ∧ w'.heap[bv]? = some (.cells (arrV .u32 (mixSmall.round L M r)) Tv (0, 0)) ∧ But bv w w' := by
 have hvs : bv < w.heap.size := (Array.getElem?_eq_some_iff.1 hv).1
 have hms : bm < w.heap.size := (Array.getElem?_eq_some_iff.1 hm).1
 have HV := hid hv
 have HM := hid hm
 have HC := hid (sigma_lit r hr)
 clear hv hm
 go_enter Try.func76, Try.ntmps76
 go_wp2_with fail
 refine (HC.out _).mono ?_; rintro e1 w1 ⟨rfl, hb1⟩
 have HB1 := hid hb1
 have hs1 := hb1.size
 clear hb1 HC
 go_wp2_with fail
 refine (places32_lit _).mono ?_; rintro e2 w2 ⟨rfl, hb2⟩
 obtain ⟨bs, hbs⟩ : ∃ bs, w1.heap.size = bs := ⟨_, rfl⟩
 have hS : w2.heap[bs]? = _ := (hb2.block bs (by simp; omega)).trans (World.alloc_new_at w1 _ hbs.symm)
 have hV : w2.heap[bv]? = _ := (hb2.block bv (by simp; omega)).trans ((Below.heap_alloc _ _ _ (by omega)).trans ((HB1.out.block bv hvs).trans HV.out))
 have hM2 : w2.heap[bm]? = _ := (hb2.block bm (by simp; omega)).trans ((Below.heap_alloc _ _ _ (by omega)).trans ((HB1.out.block bm hms).trans HM.out))
 have HB2 := hid (HB1.out.trans ((below_alloc_then' _ hb2).mono hs1))
 have hs2 : bs < w2.heap.size := by have := hb2.size; simp at this; omega
 have hvb : bs ≠ bv := by omega
 rw [hbs]
 clear hb2 HB1 hbs hs1 HV HM
 have HS := hid hS
 have HM := hid hM2
 have HV := hid hV
 clear hS hV hM2
 have hms2 : bm < w2.heap.size := by have := HB2.out.size; omega
 have hvs2 : bv < w2.heap.size := by have := HB2.out.size; omega
 go_wp2_with fail
 go_loopw [12] (fun i wr => ∃ j : Nat, i = .int .i64 j ∧ j ≤ 8 ∧ wr.heap[bv]? = some (.cells (arrV .u32 (mixSmall.turns L M r j)) Tv (0, 0)) ∧ But bv w2 wr) (fun i _ => 8 - (intOf i).toNat)
 case atStart => exact ⟨0, rfl, Nat.zero_le _, HV.out, But.refl _ _⟩
 case round =>
  obtain ⟨j, rfl, hj, hV, hB⟩ := hrel
  have hsz := hB.size
  have q1 : bs < wr.heap.size := by omega
  have q2 : bm < wr.heap.size := by omega
  have q3 : bv < wr.heap.size := by omega
  have hSr := (hB.block bs hs2 hvb).trans HS.out
  have hMr := (hB.block bm hms2 hne).trans HM.out
  obtain ⟨cS, fS⟩ := rowFacts hSr
  have HVr := hid hV
  have HBr := hid hB
  clear hV hSr hB
  by_cases hlt : j < 8
  ·rcases (show j = 0 ∨ j = 1 ∨ j = 2 ∨ j = 3 ∨ j = 4 ∨ j = 5 ∨ j = 6 ∨ j = 7 by omega) with rfl | rfl | rfl | rfl | rfl | rfl | rfl | rfl
   ·have sx := sigN_lt r 0
    have sy := sigN_lt r 1
    have cx : wr.cell? ⟨bm, sigN r 0, none⟩ = some (.int .u32 (wd M (sigN r 0))) := (cellOfRow hMr _).trans (arrV_at hM sx)
    have cy : wr.cell? ⟨bm, sigN r 1, none⟩ = some (.int .u32 (wd M (sigN r 1))) := (cellOfRow hMr _).trans (arrV_at hM sy)
    have cs0 : wr.cell? ⟨bs, 0, none⟩ = some (.int .i64 (sigN r 0 : Nat)) := cS 0
    have cs1 : wr.cell? ⟨bs, 1, none⟩ = some (.int .i64 (sigN r 1 : Nat)) := cS 1
    clear hMr cS
    go_wp2_with fail
    refine wp_region_pop_q (by dsimp only [List.dropLast]) (by rfl) (by rfl) (by kernel_rfl) (by kernel_rfl) (by kernel_rfl) (by kernel_rfl) ?_
    repeat (go_big_quiet_step (fail))
    refine wpQuiet_nil ?_
    intro _ hw'
    obtain ⟨n1, rfl⟩ := hw'
    go_wp2_with fail
    refine (step32_any bv (mixSmall.turns L M r 0) (turns_words mixSmall_ok hL r 0) 0 4 8 12 (by decide) (by decide) (by decide) (by decide) (by decide) (by decide) (by decide) (by decide) (by decide) (by decide) _ _ Tv ((wr.alloc _).drewN n1) ((Below.heap_alloc _ _ _ (by omega)).trans HVr.out)).mono ?_
    rintro e3 w3 ⟨rfl, hh3, hb3⟩
    have H3 := hid hh3
    have HB3 := hid (((HBr.out.alloc _).drewN _).trans hb3)
    clear hh3 hb3
    go_wp2
    exact ⟨⟨1, rfl, by decide, H3.out, HB3.out⟩, by simp [intOf]⟩
   ·have sx := sigN_lt r 2
    have sy := sigN_lt r 3
    have cx : wr.cell? ⟨bm, sigN r 2, none⟩ = some (.int .u32 (wd M (sigN r 2))) := (cellOfRow hMr _).trans (arrV_at hM sx)
    have cy : wr.cell? ⟨bm, sigN r 3, none⟩ = some (.int .u32 (wd M (sigN r 3))) := (cellOfRow hMr _).trans (arrV_at hM sy)
    have cs0 : wr.cell? ⟨bs, 2, none⟩ = some (.int .i64 (sigN r 2 : Nat)) := cS 2
    have cs1 : wr.cell? ⟨bs, 3, none⟩ = some (.int .i64 (sigN r 3 : Nat)) := cS 3
    clear hMr cS
    go_wp2_with fail
    refine wp_region_pop_q (by dsimp only [List.dropLast]) (by rfl) (by rfl) (by kernel_rfl) (by kernel_rfl) (by kernel_rfl) (by kernel_rfl) ?_
    repeat (go_big_quiet_step (fail))
    refine wpQuiet_nil ?_
    intro _ hw'
    obtain ⟨n1, rfl⟩ := hw'
    go_wp2_with fail
    refine (step32_any bv (mixSmall.turns L M r 1) (turns_words mixSmall_ok hL r 1) 1 5 9 13 (by decide) (by decide) (by decide) (by decide) (by decide) (by decide) (by decide) (by decide) (by decide) (by decide) _ _ Tv ((wr.alloc _).drewN n1) ((Below.heap_alloc _ _ _ (by omega)).trans HVr.out)).mono ?_
    rintro e3 w3 ⟨rfl, hh3, hb3⟩
    have H3 := hid hh3
    have HB3 := hid (((HBr.out.alloc _).drewN _).trans hb3)
    clear hh3 hb3
    go_wp2
    exact ⟨⟨2, rfl, by decide, H3.out, HB3.out⟩, by simp [intOf]⟩
   ·have sx := sigN_lt r 4
    have sy := sigN_lt r 5
    have cx : wr.cell? ⟨bm, sigN r 4, none⟩ = some (.int .u32 (wd M (sigN r 4))) := (cellOfRow hMr _).trans (arrV_at hM sx)
    have cy : wr.cell? ⟨bm, sigN r 5, none⟩ = some (.int .u32 (wd M (sigN r 5))) := (cellOfRow hMr _).trans (arrV_at hM sy)
    have cs0 : wr.cell? ⟨bs, 4, none⟩ = some (.int .i64 (sigN r 4 : Nat)) := cS 4
    have cs1 : wr.cell? ⟨bs, 5, none⟩ = some (.int .i64 (sigN r 5 : Nat)) := cS 5
    clear hMr cS
    go_wp2_with fail
    refine wp_region_pop_q (by dsimp only [List.dropLast]) (by rfl) (by rfl) (by kernel_rfl) (by kernel_rfl) (by kernel_rfl) (by kernel_rfl) ?_
    repeat (go_big_quiet_step (fail))
    refine wpQuiet_nil ?_
    intro _ hw'
    obtain ⟨n1, rfl⟩ := hw'
    go_wp2_with fail
    refine (step32_any bv (mixSmall.turns L M r 2) (turns_words mixSmall_ok hL r 2) 2 6 10 14 (by decide) (by decide) (by decide) (by decide) (by decide) (by decide) (by decide) (by decide) (by decide) (by decide) _ _ Tv ((wr.alloc _).drewN n1) ((Below.heap_alloc _ _ _ (by omega)).trans HVr.out)).mono ?_
    rintro e3 w3 ⟨rfl, hh3, hb3⟩
    have H3 := hid hh3
    have HB3 := hid (((HBr.out.alloc _).drewN _).trans hb3)
    clear hh3 hb3
    go_wp2
    exact ⟨⟨3, rfl, by decide, H3.out, HB3.out⟩, by simp [intOf]⟩
   ·have sx := sigN_lt r 6
    have sy := sigN_lt r 7
    have cx : wr.cell? ⟨bm, sigN r 6, none⟩ = some (.int .u32 (wd M (sigN r 6))) := (cellOfRow hMr _).trans (arrV_at hM sx)
    have cy : wr.cell? ⟨bm, sigN r 7, none⟩ = some (.int .u32 (wd M (sigN r 7))) := (cellOfRow hMr _).trans (arrV_at hM sy)
    have cs0 : wr.cell? ⟨bs, 6, none⟩ = some (.int .i64 (sigN r 6 : Nat)) := cS 6
    have cs1 : wr.cell? ⟨bs, 7, none⟩ = some (.int .i64 (sigN r 7 : Nat)) := cS 7
    clear hMr cS
    go_wp2_with fail
    refine wp_region_pop_q (by dsimp only [List.dropLast]) (by rfl) (by rfl) (by kernel_rfl) (by kernel_rfl) (by kernel_rfl) (by kernel_rfl) ?_
    repeat (go_big_quiet_step (fail))
    refine wpQuiet_nil ?_
    intro _ hw'
    obtain ⟨n1, rfl⟩ := hw'
    go_wp2_with fail
    refine (step32_any bv (mixSmall.turns L M r 3) (turns_words mixSmall_ok hL r 3) 3 7 11 15 (by decide) (by decide) (by decide) (by decide) (by decide) (by decide) (by decide) (by decide) (by decide) (by decide) _ _ Tv ((wr.alloc _).drewN n1) ((Below.heap_alloc _ _ _ (by omega)).trans HVr.out)).mono ?_
    rintro e3 w3 ⟨rfl, hh3, hb3⟩
    have H3 := hid hh3
    have HB3 := hid (((HBr.out.alloc _).drewN _).trans hb3)
    clear hh3 hb3
    go_wp2
    exact ⟨⟨4, rfl, by decide, H3.out, HB3.out⟩, by simp [intOf]⟩
   ·have sx := sigN_lt r 8
    have sy := sigN_lt r 9
    have cx : wr.cell? ⟨bm, sigN r 8, none⟩ = some (.int .u32 (wd M (sigN r 8))) := (cellOfRow hMr _).trans (arrV_at hM sx)
    have cy : wr.cell? ⟨bm, sigN r 9, none⟩ = some (.int .u32 (wd M (sigN r 9))) := (cellOfRow hMr _).trans (arrV_at hM sy)
    have cs0 : wr.cell? ⟨bs, 8, none⟩ = some (.int .i64 (sigN r 8 : Nat)) := cS 8
    have cs1 : wr.cell? ⟨bs, 9, none⟩ = some (.int .i64 (sigN r 9 : Nat)) := cS 9
    clear hMr cS
    go_wp2_with fail
    refine wp_region_pop_q (by dsimp only [List.dropLast]) (by rfl) (by rfl) (by kernel_rfl) (by kernel_rfl) (by kernel_rfl) (by kernel_rfl) ?_
    repeat (go_big_quiet_step (fail))
    refine wpQuiet_nil ?_
    intro _ hw'
    obtain ⟨n1, rfl⟩ := hw'
    go_wp2_with fail
    refine (step32_any bv (mixSmall.turns L M r 4) (turns_words mixSmall_ok hL r 4) 0 5 10 15 (by decide) (by decide) (by decide) (by decide) (by decide) (by decide) (by decide) (by decide) (by decide) (by decide) _ _ Tv ((wr.alloc _).drewN n1) ((Below.heap_alloc _ _ _ (by omega)).trans HVr.out)).mono ?_
    rintro e3 w3 ⟨rfl, hh3, hb3⟩
    have H3 := hid hh3
    have HB3 := hid (((HBr.out.alloc _).drewN _).trans hb3)
    clear hh3 hb3
    go_wp2
    exact ⟨⟨5, rfl, by decide, H3.out, HB3.out⟩, by simp [intOf]⟩
   ·have sx := sigN_lt r 10
    have sy := sigN_lt r 11
    have cx : wr.cell? ⟨bm, sigN r 10, none⟩ = some (.int .u32 (wd M (sigN r 10))) := (cellOfRow hMr _).trans (arrV_at hM sx)
    have cy : wr.cell? ⟨bm, sigN r 11, none⟩ = some (.int .u32 (wd M (sigN r 11))) := (cellOfRow hMr _).trans (arrV_at hM sy)
    have cs0 : wr.cell? ⟨bs, 10, none⟩ = some (.int .i64 (sigN r 10 : Nat)) := cS 10
    have cs1 : wr.cell? ⟨bs, 11, none⟩ = some (.int .i64 (sigN r 11 : Nat)) := cS 11
    clear hMr cS
    go_wp2_with fail
    refine wp_region_pop_q (by dsimp only [List.dropLast]) (by rfl) (by rfl) (by kernel_rfl) (by kernel_rfl) (by kernel_rfl) (by kernel_rfl) ?_
    repeat (go_big_quiet_step (fail))
    refine wpQuiet_nil ?_
    intro _ hw'
    obtain ⟨n1, rfl⟩ := hw'
    go_wp2_with fail
    refine (step32_any bv (mixSmall.turns L M r 5) (turns_words mixSmall_ok hL r 5) 1 6 11 12 (by decide) (by decide) (by decide) (by decide) (by decide) (by decide) (by decide) (by decide) (by decide) (by decide) _ _ Tv ((wr.alloc _).drewN n1) ((Below.heap_alloc _ _ _ (by omega)).trans HVr.out)).mono ?_
    rintro e3 w3 ⟨rfl, hh3, hb3⟩
    have H3 := hid hh3
    have HB3 := hid (((HBr.out.alloc _).drewN _).trans hb3)
    clear hh3 hb3
    go_wp2
    exact ⟨⟨6, rfl, by decide, H3.out, HB3.out⟩, by simp [intOf]⟩
   ·have sx := sigN_lt r 12
    have sy := sigN_lt r 13
    have cx : wr.cell? ⟨bm, sigN r 12, none⟩ = some (.int .u32 (wd M (sigN r 12))) := (cellOfRow hMr _).trans (arrV_at hM sx)
    have cy : wr.cell? ⟨bm, sigN r 13, none⟩ = some (.int .u32 (wd M (sigN r 13))) := (cellOfRow hMr _).trans (arrV_at hM sy)
    have cs0 : wr.cell? ⟨bs, 12, none⟩ = some (.int .i64 (sigN r 12 : Nat)) := cS 12
    have cs1 : wr.cell? ⟨bs, 13, none⟩ = some (.int .i64 (sigN r 13 : Nat)) := cS 13
    clear hMr cS
    go_wp2_with fail
    refine wp_region_pop_q (by dsimp only [List.dropLast]) (by rfl) (by rfl) (by kernel_rfl) (by kernel_rfl) (by kernel_rfl) (by kernel_rfl) ?_
    repeat (go_big_quiet_step (fail))
    refine wpQuiet_nil ?_
    intro _ hw'
    obtain ⟨n1, rfl⟩ := hw'
    go_wp2_with fail
    refine (step32_any bv (mixSmall.turns L M r 6) (turns_words mixSmall_ok hL r 6) 2 7 8 13 (by decide) (by decide) (by decide) (by decide) (by decide) (by decide) (by decide) (by decide) (by decide) (by decide) _ _ Tv ((wr.alloc _).drewN n1) ((Below.heap_alloc _ _ _ (by omega)).trans HVr.out)).mono ?_
    rintro e3 w3 ⟨rfl, hh3, hb3⟩
    have H3 := hid hh3
    have HB3 := hid (((HBr.out.alloc _).drewN _).trans hb3)
    clear hh3 hb3
    go_wp2
    exact ⟨⟨7, rfl, by decide, H3.out, HB3.out⟩, by simp [intOf]⟩
   ·have sx := sigN_lt r 14
    have sy := sigN_lt r 15
    have cx : wr.cell? ⟨bm, sigN r 14, none⟩ = some (.int .u32 (wd M (sigN r 14))) := (cellOfRow hMr _).trans (arrV_at hM sx)
    have cy : wr.cell? ⟨bm, sigN r 15, none⟩ = some (.int .u32 (wd M (sigN r 15))) := (cellOfRow hMr _).trans (arrV_at hM sy)
    have cs0 : wr.cell? ⟨bs, 14, none⟩ = some (.int .i64 (sigN r 14 : Nat)) := cS 14
    have cs1 : wr.cell? ⟨bs, 15, none⟩ = some (.int .i64 (sigN r 15 : Nat)) := cS 15
    clear hMr cS
    go_wp2_with fail
    refine wp_region_pop_q (by dsimp only [List.dropLast]) (by rfl) (by rfl) (by kernel_rfl) (by kernel_rfl) (by kernel_rfl) (by kernel_rfl) ?_
    repeat (go_big_quiet_step (fail))
    refine wpQuiet_nil ?_
    intro _ hw'
    obtain ⟨n1, rfl⟩ := hw'
    go_wp2_with fail
    refine (step32_any bv (mixSmall.turns L M r 7) (turns_words mixSmall_ok hL r 7) 3 4 9 14 (by decide) (by decide) (by decide) (by decide) (by decide) (by decide) (by decide) (by decide) (by decide) (by decide) _ _ Tv ((wr.alloc _).drewN n1) ((Below.heap_alloc _ _ _ (by omega)).trans HVr.out)).mono ?_
    rintro e3 w3 ⟨rfl, hh3, hb3⟩
    have H3 := hid hh3
    have HB3 := hid (((HBr.out.alloc _).drewN _).trans hb3)
    clear hh3 hb3
    go_wp2
    exact ⟨⟨8, rfl, by decide, H3.out, HB3.out⟩, by simp [intOf]⟩
  ·obtain rfl : j = 8 := by omega
   go_wp2
   exact bodyPost_end (results_none rfl _ _ _) rfl ⟨rfl, HVr.out, (But.of_below' HB2.out).trans HBr.out⟩
end Go.Proofs.Ytahenngmaoellaa
