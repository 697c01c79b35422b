/- TreeHashes: for every tree and every bytes the law returns true (walk). No condition. -/
import Derived.Test.YtjogmckaakkomaaGreatB47
import Derived.Test.YtjogmckaakkomaaGreatR
import Derived.Test.YtjogmckaakkomaaGreatB48
import Derived.Deep.CondSized
import Derived.JoinedCond
set_option linter.all false
set_option maxRecDepth 100000
set_option maxHeartbeats 8000000
namespace Go.Proofs.YtjogmckaakkomaaGreat
open Go.ChangeShapes Go.WideShapes Go.ChangeAt Go.RowKit Go.Joins Go.Shelf Go.Maps
open Go.Lib (hid)
attribute [local go_sem] Oper.semAt_some
theorem digZ_len (t : TreeV) (hl : 0 ≤ t.l ∧ t.l ≤ 4294967295) (kz z1 z2 zs : List Int) : (t.digZ kz z1 z2 zs).length ≤ 64 := by
 unfold TreeV.digZ
 split
 ·rename_i h
  have hL := TreeV.leafZ_facts h hl kz z1 z2 zs
  have hF := (TreeV.lvlZ_facts h kz z1 z2 hL.1 hL.2.2 ((t.rowsOf zs.length).length - 1)).2.2
  unfold nthL
  rw [List.getD_eq_getElem?_getD]
  cases e : (t.lvlZ kz z1 z2 (t.leafZ kz z1 z2 zs) ((t.rowsOf zs.length).length - 1))[0]? with
  | none => simp
  | some z => exact hF z (List.mem_of_getElem? e)
 ·simp
theorem treeHashes_walk (t : TreeV) (kz z1 z2 zs : List Int) (v : Value) (w : World) (hl : 0 ≤ t.l ∧ t.l ≤ 4294967295) (h1 : Hold w (.slice t.ka t.kl t.kc) kz) (h2 : Hold w (.slice t.sa t.sl t.sc) z1) (h3 : Hold w (.slice t.pa t.pl t.pc) z2) (hv : Hold w v zs) (hn : zs.length ≤ 4194304) (hk : t.kl ≤ 70368744177664) (hs : t.sl ≤ 70368744177664) (hp : t.pl ≤ 70368744177664) :
  Calls Tryz.prog 5 #[t.val, v] w (Trues w) := by
 obtain ⟨b0, hb0⟩ : ∃ b0, w.heap.size = b0 := ⟨_, rfl⟩
 have HL := hid hl
 have HV := hid hv
 obtain ⟨Z, hZ⟩ : ∃ Z, t.digZ kz z1 z2 zs = Z := ⟨_, rfl⟩
 have HZ := hid hZ
 have HOWN := hid (fun (W : World) (hb : Below b0 w W) => own10_ok t kz z1 z2 W (h1.below (hb0 ▸ hb)) (h2.below (hb0 ▸ hb)) (h3.below (hb0 ▸ hb)) hk hs hp)
 have hrf := fun (W : World) (hb : Below b0 w W) => hash10_any t kz z1 z2 zs v W hl (h1.below (hb0 ▸ hb)) (h2.below (hb0 ▸ hb)) (h3.below (hb0 ▸ hb)) (hv.below (hb0 ▸ hb)) hn
 unfold DigIs at hrf
 rw [hZ] at hrf
 have HREF := hid hrf
 obtain ⟨va, vc, rfl, hvc1, hvc2⟩ := hv.slice
 clear hl h1 h2 h3 hv hk hs hp hZ hrf
 have hbA : Below b0 w (w.alloc (.cells #[.int .i64 t.k, .int .i64 t.d, .int .i64 t.f, .int .i64 t.p, .int .u32 t.l, .int .i64 t.i, .slice t.ka t.kl t.kc, .slice t.sa t.sl t.sc, .slice t.pa t.pl t.pc] 34)) := by rw [← hb0]; exact (Below.refl _ _).alloc (Nat.le_refl _) _
 have hrA := World.alloc_heap_new w (.cells #[.int .i64 t.k, .int .i64 t.d, .int .i64 t.f, .int .i64 t.p, .int .u32 t.l, .int .i64 t.i, .slice t.ka t.kl t.kc, .slice t.sa t.sl t.sc, .slice t.pa t.pl t.pc] 34)
 rw [hb0] at hrA
 unfold TreeV.val at *
 go_enter Tryz.func5, Tryz.ntmps5
 go_upto_region 1 with (fail)
 generalize w.alloc (.cells #[.int .i64 t.k, .int .i64 t.d, .int .i64 t.f, .int .i64 t.p, .int .u32 t.l, .int .i64 t.i, .slice t.ka t.kl t.kc, .slice t.sa t.sl t.sc, .slice t.pa t.pl t.pc] 34) = wA at *
 have hsA : b0 < wA.heap.size := (Array.getElem?_eq_some_iff.1 hrA).1
 go_wp2_with fail
 refine (wide_ok zs _ wA (HV.out.below (hb0 ▸ hbA)) (by omega)).mono ?_; rintro e w1 ⟨u, rfl, hu, hb1⟩
 have hul : (zs ++ tailZ 70).length = zs.length + 70 := by rw [List.length_append, tailZ_length]
 obtain ⟨fa, fc, rfl, hfc1, hfc2⟩ := hu.hold.slice
 obtain ⟨fg, off, hfa⟩ := hold_some hu.hold (fun e => by have := congrArg List.length e; rw [hul] at this; simp at this)
 obtain ⟨rfl, rfl⟩ : fa = some ⟨fg, 0, none⟩ ∧ off = 0 := by
  rcases hu.2 with ⟨e, -⟩ | ⟨g, cap, cur, e, -⟩
  ·have := congrArg List.length e; rw [hul] at this; simp at this
  ·simp only [Value.slice.injEq] at e
   rw [hfa] at e
   have e1 := e.1
   simp only [Option.some.injEq, Addr.mk.injEq, and_true] at e1
   obtain ⟨rfl, rfl⟩ := e1
   exact ⟨hfa, rfl⟩
 clear hfa
 obtain ⟨fn, hfn⟩ : ∃ fn, (zs ++ tailZ 70).length = fn := ⟨_, rfl⟩
 rw [hfn] at hu hfc1 hul ⊢
 have HB1 := hid (hbA.trans (hb1.mono (show b0 ≤ wA.heap.size by omega)))
 have hrT1 := rowStay hrA hb1
 have HU := hid hu
 have hs1 : b0 ≤ w1.heap.size := by have := hb1.size; omega
 obtain ⟨b1, hb1e⟩ : ∃ b1, w1.heap.size = b1 := ⟨_, rfl⟩
 have HB1E := hid hb1e
 have HFL := hid (fun (W : World) (hb : Below w1.heap.size w1 W) => hu.hold.below hb)
 have HUL := hid hul
 have HFC := hid (show zs.length ≤ fc ∧ (fc = 0) = False from ⟨by omega, by simp; omega⟩)
 clear hu hb1 hrA hbA hfn hb1e hul
 have HFULL1 := hid (show Hold w1 (.slice (some ⟨fg, 0, none⟩) zs.length fc) zs by
  have := hold_take (k := zs.length) (HFL.out w1 (Below.refl _ _)) (by simp)
  rwa [List.take_left] at this)
 go_wp2_with fail
 refine wp_region_c (n := 12) (w0 := w1) (B := w1.heap.size) [.v 13 (.agg #[.int .i64 t.k, .int .i64 t.d, .int .i64 t.f, .int .i64 t.p, .int .u32 t.l, .int .i64 t.i, .slice t.ka t.kl t.kc, .slice t.sa t.sl t.sc, .slice t.pa t.pl t.pc]), .p 14 (fun u W => OwnTree t kz z1 z2 w1.heap.size W u), .v 15 (.slice (some ⟨fg, 0, none⟩) fn fc), .v 16 (.slice va zs.length vc), .v 17 (.int .i64 (zs.length : Nat)), .v 18 (.slice (some ⟨fg, 0, none⟩) zs.length fc), .p 19 (fun u W => ∃ x, u = .tuple #[x, .int .i64 t.validE] ∧ OwnB w1.heap.size W x Z), .p 12 (fun u W => ∃ x, u = .tuple #[x, .int .i64 t.validE] ∧ OwnB w1.heap.size W x Z), .p 20 (fun u W => OwnB w1.heap.size W u Z), .v 21 (.int .i64 t.validE), .p 6 (fun u W => OwnB w1.heap.size W u Z), .v 7 (.int .i64 t.validE)] (by exact ⟨(fun _ _ _ h hb => h.below hb), (fun _ _ _ h hb => by obtain ⟨r, e, h⟩ := h; exact ⟨r, e, h.kb (KB.of_below hb (Nat.zero_le _))⟩), (fun _ _ _ h hb => by obtain ⟨r, e, h⟩ := h; exact ⟨r, e, h.kb (KB.of_below hb (Nat.zero_le _))⟩), (fun _ _ _ h hb => OwnB.kb h (KB.of_below hb (Nat.zero_le _))), (fun _ _ _ h hb => OwnB.kb h (KB.of_below hb (Nat.zero_le _))), trivial⟩) (Below.refl _ _).drew (Nat.le_refl _) ?_ ?_
 ·repeat' (with_reducible first | exact eachO_nil | refine eachO_cons ?_ ?_)
  ·intro AA x W hA hW hBW hdep D K hK
   have a2 := hA.2 2 (by decide)
   conv at a2 => rhs; whnf
   clear hdep hA
   exact wp_load_row 34 _ rfl b0 a2 _ _ _ _ (rowStay hrT1 hW) Tryz.underlying34 rfl (by kernel_rfl) (hK _ _ (Below.refl _ _) rfl)
  ·intro AA x W hA hW hBW hdep _ K hK
   have g0 := gv hA hdep 0 13
   clear hdep hA
   go_simp
   refine (HOWN.out W (HB1.out.trans (hW.mono (by omega)))).mono ?_; rintro e w5 ⟨u, rfl, ho, hb5⟩
   refine hK _ _ hb5 ?_
   obtain ⟨a1, c1, a2, c2, a3, c3, e, k1, k2, k3⟩ := ho
   exact ⟨a1, c1, a2, c2, a3, c3, e, k1.le hBW, k2.le hBW, k3.le hBW⟩
  all_goals try
   intro AA x W hA hW hBW hdep D K hK
   have a1 := hA.2 1 (by decide)
   conv at a1 => rhs; whnf
   have a5 := hA.2 5 (by decide)
   conv at a5 => rhs; whnf
   simp only [DepF, nthF] at D
   clear hdep hA
   first
   | go_simp
     exact hK _ _ BR rfl
   | have y5 := HFC.out.1
     have y6 := HFC.out.2
     go_simp
     exact hK _ _ BR rfl
  ·intro AA x W hA hW hBW hdep _ K hK
   have g14 : (fun u W => OwnTree t kz z1 z2 w1.heap.size W u) (x 14) W := hdep ⟨1, .data⟩ (by simp) rfl _ rfl
   have a14 : AA.tmps.getD 14 undef = x 14 := hA.1 14 (by decide)
   have g18 := gv hA hdep 5 18
   clear hdep hA
   obtain ⟨a1, c1, a2, c2, a3, c3, e, k1, k2, k3⟩ := g14
   rw [e] at a14
   have hq := hash_any (t.sw a1 c1 a2 c2 a3 c3) kz z1 z2 zs (.slice (some ⟨fg, 0, none⟩) zs.length fc) W HL.out k1.hold k2.hold k3.hold (HFULL1.out.below hW) hn
   unfold DigIs at hq
   rw [TreeV.digZ_sw, HZ.out] at hq
   go_simp
   refine hq.mono ?_; rintro e w5 ⟨u, rfl, ho, hb5⟩
   exact hK _ _ hb5 ⟨u, rfl, ho.le hBW⟩
  ·intro AA x W hA hW hBW hdep _ K hK
   have g19 : (fun u W => ∃ x, u = .tuple #[x, .int .i64 t.validE] ∧ OwnB w1.heap.size W x Z) (x 19) W := hdep ⟨6, .data⟩ (by simp) rfl _ rfl
   have a19 : AA.tmps.getD 19 undef = x 19 := hA.1 19 (by decide)
   clear hdep hA
   go_simp
   exact hK _ _ (Below.refl _ _) (a19 ▸ g19)
  ·intro AA x W hA hW hBW hdep _ K hK
   have g19 : (fun u W => ∃ x, u = .tuple #[x, .int .i64 t.validE] ∧ OwnB w1.heap.size W x Z) (x 12) W := hdep ⟨7, .data⟩ (by simp) rfl _ rfl
   have a19 : AA.tmps.getD 12 undef = x 12 := hA.1 12 (by decide)
   clear hdep hA
   obtain ⟨r, er, hr⟩ := g19
   rw [er] at a19
   go_simp
   exact hK _ _ (Below.refl _ _) hr
  ·intro AA x W hA hW hBW hdep _ K hK
   have g19 : (fun u W => ∃ x, u = .tuple #[x, .int .i64 t.validE] ∧ OwnB w1.heap.size W x Z) (x 12) W := hdep ⟨7, .data⟩ (by simp) rfl _ rfl
   have a19 : AA.tmps.getD 12 undef = x 12 := hA.1 12 (by decide)
   clear hdep hA
   obtain ⟨r, er, hr⟩ := g19
   rw [er] at a19
   go_simp
   exact hK _ _ BR rfl
  ·intro AA x W hA hW hBW hdep _ K hK
   have g19 : (fun u W => OwnB w1.heap.size W u Z) (x 20) W := hdep ⟨8, .data⟩ (by simp) rfl _ rfl
   have a19 : AA.tmps.getD 20 undef = x 20 := hA.1 20 (by decide)
   clear hdep hA
   go_simp
   exact hK _ _ (Below.refl _ _) (a19 ▸ g19)
 intro x W1 hW1 hBW hall
 obtain ⟨-, -, -, -, e6, -⟩ := hall
 change (fun u W => OwnB w1.heap.size W u Z) (x 6) W1 at e6
 refine thenTail_nil ?_
 simp only [layS, Act.put, List.setIfInBounds_toArray, List.set_cons_zero, List.set_cons_succ]
 obtain ⟨X1, hX6⟩ : ∃ X, x 6 = X := ⟨_, rfl⟩
 rw [hX6] at e6
 simp only [hX6]
 have HX1 := hid e6
 have HBW1 := hid (HB1.out.trans (hW1.mono (show b0 ≤ w1.heap.size by omega)))
 have HWX1 := hid hW1
 have hrW1 := rowStay hrT1 hW1
 have hsW1 := hW1.size
 generalize x 14 = xa1
 generalize x 19 = xb1
 generalize x 12 = xc1
 generalize x 20 = xd1
 clear e6 hW1 hBW hX6 x
 go_wp2_with ((with_reducible show wpList _ _ _ (Oper.mk _ (Op.load 34 _) _ _ _ _ :: _) _ _); refine wpList_load_row rfl 34 _ rfl b0 rfl _ _ _ _ hrW1 Tryz.underlying34 rfl (by kernel_rfl) ?_)
 refine (HREF.out W1 HBW1.out).mono ?_; rintro e w3 ⟨y, rfl, hy, hb3⟩
 have HY := hid hy
 have HX3 := hid (HX1.out.kb (KB.of_below hb3 (Nat.zero_le _)))
 have hr3 := rowStay hrW1 hb3
 have hs3 := hb3.size
 have HB3 := hid (HBW1.out.trans (hb3.mono (by omega)))
 have HW3 := hid (HWX1.out.trans (hb3.mono hsW1))
 have HUH3 := hid (HFL.out w3 HW3.out)
 clear hy hb3 hrW1
 go_wp2_with fail
 refine (same10_ok Z X1 y w3 HX3.out.hold HY.out.hold).mono ?_; rintro e w3b ⟨rfl, m3, hm3⟩
 have hbm : Below w3.heap.size w3 w3b := by rw [hm3]; exact below_drewN _ _
 have HX3b := hid (HX3.out.kb (KB.of_below hbm (Nat.zero_le _)))
 have HY3b := hid (HY.out.kb (KB.of_below hbm (Nat.zero_le _)))
 have hr3b := rowStay hr3 hbm
 have hs3b := hbm.size
 have HB3b := hid (HB3.out.trans (hbm.mono (by omega)))
 have HW3b := hid (HW3.out.trans (hbm.mono (by have := HW3.out.size; omega)))
 clear hm3 hbm hr3 HX3 HY HB3 HW3 HUH3
 go_wp2_with fail
 refine (kept_ok zs _ _ w3b (HFL.out w3b HW3b.out) (HV.out.below (hb0 ▸ HB3b.out)) (by omega)).mono ?_; rintro e w5 ⟨rfl, hb5⟩
 have HX5 := hid (HX3b.out.kb (KB.of_below hb5 (Nat.zero_le _)))
 have HY5 := hid (HY3b.out.kb (KB.of_below hb5 (Nat.zero_le _)))
 have hr5 := rowStay hr3b hb5
 have hs5 := hb5.size
 have HB5 := hid (HB3b.out.trans (hb5.mono (by omega)))
 have HW5 := hid (HW3b.out.trans (hb5.mono (by have := HW3b.out.size; omega)))
 clear hb5 hr3b HX3b HY3b HB3b HW3b
 have hZl : Z.length ≤ 64 := by rw [← HZ.out]; exact digZ_len t HL.out kz z1 z2 zs
 go_wp2_with fail
 refine (spoil_ok Z X1 _ w5 HX5.out (by omega)).mono ?_; rintro e w4 ⟨rfl, hsp⟩
 have hb4 := spare_below hsp HX5.out (by omega)
 have HY4 := hid (ownB_spare hsp HX1.out HY5.out (Nat.le_refl _))
 have hrT4 : w4.heap[b0]? = some (.cells #[.int .i64 t.k, .int .i64 t.d, .int .i64 t.f, .int .i64 t.p, .int .u32 t.l, .int .i64 t.i, .slice t.ka t.kl t.kc, .slice t.sa t.sl t.sc, .slice t.pa t.pl t.pc] 34 (0, 0)) := (hb4.block b0 (by have := (Array.getElem?_eq_some_iff.1 hrT1).1; omega)).trans hr5
 have HB4 := hid (HB5.out.trans (hb4.mono (by omega)))
 have HFULL4 := hid (show Hold w4 (.slice (some ⟨fg, 0, none⟩) zs.length fc) zs by
  have := hold_take (k := zs.length) (HFL.out w4 (HW5.out.trans hb4)) (by simp)
  rwa [List.take_left] at this)
 have hs4 := hb4.size
 clear hsp hb4 hr5 HX5 HY5 HB5 HW5
 go_wp2_with fail
 refine wp_region_c (n := 11) (w0 := w4) (B := w4.heap.size) [.v 46 (.agg #[.int .i64 t.k, .int .i64 t.d, .int .i64 t.f, .int .i64 t.p, .int .u32 t.l, .int .i64 t.i, .slice t.ka t.kl t.kc, .slice t.sa t.sl t.sc, .slice t.pa t.pl t.pc]), .p 47 (fun u W => OwnTree t kz z1 z2 w4.heap.size W u), .v 48 (.slice (some ⟨fg, 0, none⟩) fn fc), .v 49 (.slice va zs.length vc), .v 50 (.int .i64 (zs.length : Nat)), .v 51 (.slice (some ⟨fg, 0, none⟩) zs.length fc), .p 52 (fun u W => ∃ x, u = .tuple #[x, .int .i64 t.validE] ∧ OwnB w4.heap.size W x Z), .p 45 (fun u W => ∃ x, u = .tuple #[x, .int .i64 t.validE] ∧ OwnB w4.heap.size W x Z), .p 53 (fun u W => OwnB w4.heap.size W u Z), .v 54 (.int .i64 t.validE), .p 6 (fun u W => OwnB w4.heap.size W u Z)] (by exact ⟨(fun _ _ _ h hb => h.below hb), (fun _ _ _ h hb => by obtain ⟨r, e, h⟩ := h; exact ⟨r, e, h.kb (KB.of_below hb (Nat.zero_le _))⟩), (fun _ _ _ h hb => by obtain ⟨r, e, h⟩ := h; exact ⟨r, e, h.kb (KB.of_below hb (Nat.zero_le _))⟩), (fun _ _ _ h hb => OwnB.kb h (KB.of_below hb (Nat.zero_le _))), (fun _ _ _ h hb => OwnB.kb h (KB.of_below hb (Nat.zero_le _))), trivial⟩) (Below.refl _ _).drew (Nat.le_refl _) ?_ ?_
 ·repeat' (with_reducible first | exact eachO_nil | refine eachO_cons ?_ ?_)
  ·intro AA x W hA hW hBW hdep D K hK
   have a2 := hA.2 2 (by decide)
   conv at a2 => rhs; whnf
   clear hdep hA
   exact wp_load_row 34 _ rfl b0 a2 _ _ _ _ (rowStay hrT4 hW) Tryz.underlying34 rfl (by kernel_rfl) (hK _ _ (Below.refl _ _) rfl)
  ·intro AA x W hA hW hBW hdep _ K hK
   have g0 := gv hA hdep 0 46
   clear hdep hA
   go_simp
   refine (HOWN.out W (HB4.out.trans (hW.mono (by omega)))).mono ?_; rintro e w5 ⟨u, rfl, ho, hb5⟩
   refine hK _ _ hb5 ?_
   obtain ⟨a1, c1, a2, c2, a3, c3, e, k1, k2, k3⟩ := ho
   exact ⟨a1, c1, a2, c2, a3, c3, e, k1.le hBW, k2.le hBW, k3.le hBW⟩
  all_goals try
   intro AA x W hA hW hBW hdep D K hK
   have a1 := hA.2 1 (by decide)
   conv at a1 => rhs; whnf
   have a5 := hA.2 5 (by decide)
   conv at a5 => rhs; whnf
   simp only [DepF, nthF] at D
   clear hdep hA
   first
   | go_simp
     exact hK _ _ BR rfl
   | have y5 := HFC.out.1
     have y6 := HFC.out.2
     go_simp
     exact hK _ _ BR rfl
  ·intro AA x W hA hW hBW hdep _ K hK
   have g14 : (fun u W => OwnTree t kz z1 z2 w4.heap.size W u) (x 47) W := hdep ⟨1, .data⟩ (by simp) rfl _ rfl
   have a14 : AA.tmps.getD 47 undef = x 47 := hA.1 47 (by decide)
   have g18 := gv hA hdep 5 51
   clear hdep hA
   obtain ⟨a1, c1, a2, c2, a3, c3, e, k1, k2, k3⟩ := g14
   rw [e] at a14
   have hq := hash_any (t.sw a1 c1 a2 c2 a3 c3) kz z1 z2 zs (.slice (some ⟨fg, 0, none⟩) zs.length fc) W HL.out k1.hold k2.hold k3.hold (HFULL4.out.below hW) hn
   unfold DigIs at hq
   rw [TreeV.digZ_sw, HZ.out] at hq
   go_simp
   refine hq.mono ?_; rintro e w5 ⟨u, rfl, ho, hb5⟩
   exact hK _ _ hb5 ⟨u, rfl, ho.le hBW⟩
  ·intro AA x W hA hW hBW hdep _ K hK
   have g19 : (fun u W => ∃ x, u = .tuple #[x, .int .i64 t.validE] ∧ OwnB w4.heap.size W x Z) (x 52) W := hdep ⟨6, .data⟩ (by simp) rfl _ rfl
   have a19 : AA.tmps.getD 52 undef = x 52 := hA.1 52 (by decide)
   clear hdep hA
   go_simp
   exact hK _ _ (Below.refl _ _) (a19 ▸ g19)
  ·intro AA x W hA hW hBW hdep _ K hK
   have g19 : (fun u W => ∃ x, u = .tuple #[x, .int .i64 t.validE] ∧ OwnB w4.heap.size W x Z) (x 45) W := hdep ⟨7, .data⟩ (by simp) rfl _ rfl
   have a19 : AA.tmps.getD 45 undef = x 45 := hA.1 45 (by decide)
   clear hdep hA
   obtain ⟨r, er, hr⟩ := g19
   rw [er] at a19
   go_simp
   exact hK _ _ (Below.refl _ _) hr
  ·intro AA x W hA hW hBW hdep _ K hK
   have g19 : (fun u W => ∃ x, u = .tuple #[x, .int .i64 t.validE] ∧ OwnB w4.heap.size W x Z) (x 45) W := hdep ⟨7, .data⟩ (by simp) rfl _ rfl
   have a19 : AA.tmps.getD 45 undef = x 45 := hA.1 45 (by decide)
   clear hdep hA
   obtain ⟨r, er, hr⟩ := g19
   rw [er] at a19
   go_simp
   exact hK _ _ BR rfl
  ·intro AA x W hA hW hBW hdep _ K hK
   have g19 : (fun u W => OwnB w4.heap.size W u Z) (x 53) W := hdep ⟨8, .data⟩ (by simp) rfl _ rfl
   have a19 : AA.tmps.getD 53 undef = x 53 := hA.1 53 (by decide)
   clear hdep hA
   go_simp
   exact hK _ _ (Below.refl _ _) (a19 ▸ g19)
 intro x W4 hW4 hBW hall
 obtain ⟨-, -, -, -, e6, -⟩ := hall
 change (fun u W => OwnB w4.heap.size W u Z) (x 6) W4 at e6
 refine thenTail_nil ?_
 simp only [layS, Act.put, List.setIfInBounds_toArray, List.set_cons_zero, List.set_cons_succ]
 obtain ⟨X4, hX6⟩ : ∃ X, x 6 = X := ⟨_, rfl⟩
 rw [hX6] at e6
 simp only [hX6]
 have HX4 := hid e6
 have HBW4 := hid (HB4.out.trans (hW4.mono (show b0 ≤ w4.heap.size by omega)))
 have HWX4 := hid hW4
 have hrW4 := rowStay hrT4 hW4
 have hsW4 := hW4.size
 generalize x 47 = xa4
 generalize x 52 = xb4
 generalize x 45 = xc4
 generalize x 53 = xd4
 clear e6 hW4 hBW hX6 x
 go_wp2_with fail
 refine (same10_ok Z X4 y W4 HX4.out.hold (HY4.out.kb (KB.of_below HWX4.out (Nat.zero_le _))).hold).mono ?_; rintro e w8 ⟨rfl, m8, rfl⟩
 go_wp2
 go_ret
 exact ⟨rfl, by rw [hb0]; exact HBW4.out.trans ((below_drewN W4 m8).mono (by have := HBW4.out.size; omega))⟩
end Go.Proofs.YtjogmckaakkomaaGreat
namespace Go.Proofs.YtjogmckaakkomaaGreat
open Go.ChangeShapes Go.WideShapes Go.ChangeAt Go.RowKit Go.Joins Go.Shelf Go.Maps
open Go.Lib (hid)
theorem treeHashes_call {H : Type} (enc : TypeId × Value → H) (W : World) (base : Nat) (args : Array Value) (ds : List (DataW H)) (p : List MemPlace)
  (hval : ∀ (j : Nat) t v, Tryz.f5.params[j]? = some t → args[j]? = some v → Value.okWide Tryz.prog W .any base t v)
  (hA : DataW.TrodAll enc Tryz.prog W 0 (fun _ => true) true Tryz.f5.params.toList args.toList ds p) (hlt : ∀ x ∈ p, x.block < W.heap.size)
  (hk : Rows.uptoSmall H ds = true) :
  Calls Tryz.prog 5 args W (Trues W) := by
 rw [Tryz.params5] at hA hval
 obtain ⟨v0, v1, d0, d1, p0, p1, rfl, rfl, rfl, h0, h1⟩ := trodAll_two hA
 have hb : Rows.uptoBulk d0 + (Rows.uptoBulk d1 + 0) ≤ 1048576 := of_decide_eq_true hk
 obtain ⟨t, kz, z1, z2, rfl, hl, ht, b1, b2, b3⟩ := openH_tree (hval 0 34 v0 rfl rfl) h0 (fun x hx => hlt x (by simp [hx]))
 obtain ⟨zs, hz, hm⟩ := openH_bytes (hval 1 23 v1 rfl rfl) h1 (fun x hx => hlt x (by simp [hx]))
 have e1 := hold_len ht.k
 have e2 := hold_len ht.s
 have e3 := hold_len ht.p
 exact treeHashes_walk t kz z1 z2 zs v1 W hl ht.k ht.s ht.p hz (by omega) (by omega) (by omega) (by omega)
theorem treeHashes_lifted (os : Os) (started : os.Started) (H : Type) (enc : TypeId × Value → H) (F0 : Stop.Interp) :
  ReturnsInHanded {} Tryz.checked os 5 .any ((Rows.OpenSpec.upto Rows.treeHashesSpec).pre6 enc Tryz.prog Tryz.f5 Rows.treeHashesUptoRow.domain false) (((Rows.OpenSpec.upto Rows.treeHashesSpec).at F0).post enc Tryz.prog Tryz.f5 false true false false) := by
 refine returnsInHanded_of_cond_sized (C := Tryz.checked) (s := Rows.OpenSpec.upto Rows.treeHashesSpec) (k := Rows.uptoSmall) rfl own started (by kernel_rfl) Tryz.func5
  (OpenSpec.witness (enc := enc) (C := Tryz.checked) (s := Rows.OpenSpec.upto Rows.treeHashesSpec) (k := Rows.uptoSmall) rfl false ⟨#[], #[.agg #[.int .i64 0, .int .i64 0, .int .i64 0, .int .i64 0, .int .u32 0, .int .i64 0, .slice none 0 0, .slice none 0 0, .slice none 0 0], .slice none 0 0], []⟩ 40 (by kernel_rfl) (by kernel_rfl) (by kernel_rfl)
   (x := ([.agg [.lit (.int .i64 0), .lit (.int .i64 0), .lit (.int .i64 0), .lit (.int .i64 0), .lit (.int .u32 0), .lit (.int .i64 0), .nil, .nil, .nil], .nil], [], [])) (by kernel_rfl) (by kernel_rfl) (by kernel_rfl)) ?_
 intro W base args ds gs before hval0 hW hcnd hk hz _
 have hW' := hW
 obtain ⟨p, q, hA0, hV, rfl, hfz, hnd⟩ := hW
 have hA : DataW.TrodAll enc Tryz.prog W 0 (fun _ => true) true Tryz.f5.params.toList args.toList ds p := hA0
 obtain ⟨rfl, rfl⟩ := trodVars_none hV
 have hk' : Rows.uptoSmall H ds = true := by rw [← List.append_nil ds]; exact hk
 refine (treeHashes_call enc W base args ds p hval0 hA (fun x hx => hW'.lt x (by simpa using hx)) hk').mono fun e W' h => ⟨_, h.1, ?_⟩
 refine post_of_trues (s := (Rows.OpenSpec.upto Rows.treeHashesSpec).at F0) laidOut _ rfl Tryz.underlying4 (by decide +kernel) rfl hW' ?_ h.2
 have hA' := hA
 rw [Tryz.params5] at hA'
 obtain ⟨v0, v1, d0, d1, p0, p1, rfl, rfl, _⟩ := trodAll_two hA'
 rfl
theorem treeHashes_holds : Rows.TreeHashesUptoSaid :=
 OpenClaim.holds_of_cond 5 Tryz.f5 rfl rfl rfl rfl rfl rfl rfl ⟨rfl, rfl, rfl, rfl, rfl⟩ rfl rfl rfl rfl rfl (by kernel_rfl) Tryz.func5 (by kernel_rfl)
  (of_decide_eq_true (by kernel_rfl)) (by unfold Func.isWrapper; first | (rw [if_pos (by decide +kernel)]; kernel_rfl) | (rw [if_neg (by decide +kernel)]; exact ⟨rfl, rfl⟩))
  (fun os started H enc _ F0 => by rw [OpenClaim.pre_of_none' rfl]; exact treeHashes_lifted os started H enc F0)
#print axioms treeHashes_holds
end Go.Proofs.YtjogmckaakkomaaGreat
