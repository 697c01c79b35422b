/- PoolSystems: Valid, Buffers, System and Bound of every pool, the program's and the reference's: the same. No condition. -/
import Derived.Test.YtadkpndfbfjmfaaPoolG
namespace Go.Proofs.Ytadkpndfbfjmfaa
open Go.ChangeShapes Go.WideShapes Go.ChangeAt Go.RowKit Go.Joins
attribute [local go_sem] Oper.semAt_some

theorem SysAny.five {W : World} {v : Value} {n k q : Int} (h : SysAny W v n k q) : ∃ (a : Option Addr) (l : Nat) (a' : Option Addr) (l' : Nat) (z2 z3 z4 : Int), v = .agg #[.slice a l l, .slice a' l' l', .int .i64 z2, .int .i64 z3, .int .i64 z4] := by
  rcases h.form with ⟨b, r, -, e⟩ | ⟨-, e⟩
  · exact ⟨_, _, _, _, _, _, _, e⟩
  · exact ⟨_, _, _, _, _, _, _, e⟩
theorem systems_any (n k q : Int) (u v : Value) (w : World) (hu : SysAny w u n k q) (hv : SysAny w v n k q) :
    Calls Try.prog 13 #[u, v] w fun e w' => e = .returned (.bool true) ∧ Below w.heap.size w w' := by
  rcases hu with ⟨h0, hu⟩ | ⟨h0, rfl⟩
  · rcases hv with ⟨_, hv⟩ | ⟨h1, rfl⟩
    · exact systems_eq n k q u v w hu hv
    · exact absurd h0 h1
  · rcases hv with ⟨h1, hv⟩ | ⟨_, rfl⟩
    · exact absurd h1 h0
    · exact systems_zero w
structure AtLast (w : World) (n k q : Int) (bx b9 b11 : Nat) (u v : Value) (us vs : Array Value) (W : World) : Prop where
  below : Below w.heap.size w W
  box : W.heap[bx]? = some (.cells #[.int .i64 k, .int .i64 q] 23 (0, 0))
  sys : W.heap[b9]? = some (.cells us 32 (0, 0))
  ref : W.heap[b11]? = some (.cells vs 32 (0, 0))
  hu : SysAny W u n k q
  hv : SysAny W v n k q
theorem AtLast.next {w : World} {n k q : Int} {bx b9 b11 : Nat} {u v : Value} {us vs : Array Value} {W W' : World} (h : AtLast w n k q bx b9 b11 u v us vs W) (hb : Below W.heap.size W W') : AtLast w n k q bx b9 b11 u v us vs W' :=
  ⟨h.below.trans (hb.mono h.below.size), block_below h.box hb, block_below h.sys hb, block_below h.ref hb, h.hu.below hb, h.hv.below hb⟩
def goods3 (n k q pe pb se bd : Int) (u v : Value) : List GK := [.val (.agg #[.int .i64 k, .int .i64 q]), .val (.int .i64 pe), .val (.agg #[.int .i64 k, .int .i64 q]), .val (.int .i64 pe), .val (.bool true), .val (.bool true), .val (.int .i64 pb), .val (.int .i64 pb), .val (.bool true), .val (.bool true), .val (.bool true), .val (.int .i64 pe), .val (.int .i64 pe), .val (.bool true), .val (.bool true), .val (.bool true), .val (u), .val (v), .val (.bool true), .val (.bool true), .val (.bool true), .val (.int .i64 se), .val (.int .i64 se), .val (.bool true), .val (.bool true), .val (.bool true), .val (.int .i64 bd), .val (.int .i64 bd), .val (.bool true), .val (.bool true), .val (.bool true), .val (.int .i64 se), .val (.int .i64 se), .val (.bool true), .val (.bool true), .val (.bool true), .val (.bool true), .val (.bool true), .val (.bool true)]
set_option maxRecDepth 100000 in
set_option maxHeartbeats 1000000 in
theorem poolSystems_walk (n k q : Int) (w : World) : Calls Try.prog 3 #[.int .i64 n, .agg #[.int .i64 k, .int .i64 q]] w (Trues w) := by
  have C1 := Lib.hid (buffers_any k q)
  have C2 := Lib.hid (refBuffers_any k q)
  have C3 := Lib.hid (system_any n k q)
  have C4 := Lib.hid (refSystem_any n k q)
  have C5 := Lib.hid (bound_any n k q)
  have C6 := Lib.hid (refBound_any n k q)
  have C7 := Lib.hid (valid_any k q)
  have C8 := Lib.hid (refValid_any k q)
  have C9 := Lib.hid (systems_any n k q)
  generalize poolE k q = pe at C1 C2 C7 C8
  generalize poolB k q = pb at C1 C2
  generalize sysE n k q = se at C3 C4 C5 C6
  generalize bndV n k q = bd at C5 C6
  obtain ⟨bx, hbx⟩ : ∃ bx, w.heap.size = bx := ⟨_, rfl⟩
  go_enter Try.func3, Try.ntmps3
  go_wp2_with fail
  refine (C1.out _).mono ?_; rintro r w1 ⟨rfl, hb1⟩
  have hx1 := block_below (World.alloc_heap_new_at w _ hbx.symm) hb1
  have HB1 := Lib.hid (below_alloc_then _ hb1)
  obtain ⟨cx1, fx1⟩ := blockC hx1
  have HX1 := Lib.hid hx1
  have s1 : bx < w1.heap.size := (Array.getElem?_eq_some_iff.1 hx1).1
  clear hx1 hb1
  go_wp2_with fail
  refine (C2.out _).mono ?_; rintro r w2 ⟨rfl, hb2⟩
  have hx2 := block_below HX1.out hb2
  have HB2 := Lib.hid (HB1.out.trans (hb2.mono HB1.out.size))
  obtain ⟨cx2, fx2⟩ := blockC hx2
  have HX2 := Lib.hid hx2
  have s2 : bx < w2.heap.size := (Array.getElem?_eq_some_iff.1 hx2).1
  clear hx2 hb2 cx1 fx1 HX1 HB1 s1
  go_wp2_with fail
  refine (C3.out _).mono ?_; rintro r w3 ⟨u, rfl, hu, hb3⟩
  have hx3 := block_below HX2.out hb3
  have HB3 := Lib.hid (HB2.out.trans (hb3.mono HB2.out.size))
  obtain ⟨cx3, fx3⟩ := blockC hx3
  have HX3 := Lib.hid hx3
  have s3 : bx < w3.heap.size := (Array.getElem?_eq_some_iff.1 hx3).1
  obtain ⟨a1, l1, a2, l2, x2, x3, x4, eu⟩ := hu.five
  have HU3 := Lib.hid hu
  have EU := Lib.hid eu
  rw [eu]
  clear hx3 hb3 cx2 fx2 HX2 HB2 s2 hu eu
  go_wp2_with fail
  refine (C4.out _).mono ?_; rintro r w4 ⟨v, rfl, hv, hb4⟩
  have hx4 := (hb4.block bx (by simp; omega)).trans ((Below.heap_alloc _ _ _ s3).trans HX3.out)
  have hy4 := block_below (World.alloc_heap_new w3 _) hb4
  have HB4 := Lib.hid (HB3.out.trans ((below_alloc_then _ hb4).mono HB3.out.size))
  have hu4 := HU3.out.below (below_alloc_then _ hb4)
  obtain ⟨cx4, fx4⟩ := blockC hx4
  have HX4 := Lib.hid hx4
  have HY4 := Lib.hid hy4
  have HU4 := Lib.hid hu4
  have HV4 := Lib.hid hv
  have s4 : bx < w4.heap.size := (Array.getElem?_eq_some_iff.1 hx4).1
  obtain ⟨a5, l5, a6, l6, y2, y3, y4, ev⟩ := hv.five
  have EV := Lib.hid ev
  rw [ev]
  clear hx4 hb4 hy4 hu4 hv cx3 fx3 HX3 HB3 HU3 ev s3
  generalize w3.heap.size = b9 at *
  go_wp2_with fail
  refine (C5.out _).mono ?_; rintro r w5 ⟨rfl, hb5⟩
  have hx5 := (hb5.block bx (by simp; omega)).trans ((Below.heap_alloc _ _ _ s4).trans HX4.out)
  have hy5 := block_below HY4.out (below_alloc_then _ hb5)
  have hz5 := block_below (World.alloc_heap_new w4 _) hb5
  have HB5 := Lib.hid (HB4.out.trans ((below_alloc_then _ hb5).mono HB4.out.size))
  have hu5 := HU4.out.below (below_alloc_then _ hb5)
  have hv5 := HV4.out.below (below_alloc_then _ hb5)
  obtain ⟨cx5, fx5⟩ := blockC hx5
  have AL5 := Lib.hid (AtLast.mk HB5.out hx5 hy5 hz5 hu5 hv5)
  have s5 : bx < w5.heap.size := (Array.getElem?_eq_some_iff.1 hx5).1
  clear hx5 hb5 hy5 hz5 hu5 hv5 cx4 fx4 HX4 HY4 HB4 HU4 HV4 s4
  generalize w4.heap.size = b11 at *
  go_wp2_with fail
  refine (C6.out _).mono ?_; rintro r w6 ⟨rfl, hb6⟩
  have AL := Lib.hid ((AL5.out.next hb6).next (W' := w6.drew) ⟨rfl, rfl, rfl, Nat.le_refl _, fun _ _ => rfl⟩)
  have HB6 := Lib.hid (HB5.out.trans (hb6.mono HB5.out.size))
  clear cx5 fx5 AL5 HB5 s5 hb6
  go_wp2_with fail
  refine wp_region_inv (ds := [51, 52, 53, 54, 55, 56, 57, 58, 59, 60, 61, 62, 63, 64, 65, 66, 67, 68, 69, 70, 71, 72, 73, 74, 75, 76, 77, 78, 79, 80, 81, 82, 83, 84, 85, 86, 87, 88, 4]) (R := AtLast w n k q bx b9 b11 u v #[.slice a1 l1 l1, .slice a2 l2 l2, .int .i64 x2, .int .i64 x3, .int .i64 x4] #[.slice a5 l5 l5, .slice a6 l6 l6, .int .i64 y2, .int .i64 y3, .int .i64 y4]) (Good := GoodAt (goods3 n k q pe pb se bd u v)) rfl (by decide) (by kernel_rfl) (by kernel_rfl) ?_ ?_ (hgn_all (by kernel_rfl)) ?_
  case refine_1 => exact AL.out
  case refine_2 =>
    refine allAt_spec (p := _) ?_
    refine allAt_cons ?_ (allAt_cons ?_ (allAt_cons ?_ (allAt_cons ?_ (allAt_cons ?_ (allAt_cons ?_ (allAt_cons ?_ (allAt_cons ?_ (allAt_cons ?_ (allAt_cons ?_ (allAt_cons ?_ (allAt_cons ?_ (allAt_cons ?_ (allAt_cons ?_ (allAt_cons ?_ (allAt_cons ?_ (allAt_cons ?_ (allAt_cons ?_ (allAt_cons ?_ (allAt_cons ?_ (allAt_cons ?_ (allAt_cons ?_ (allAt_cons ?_ (allAt_cons ?_ (allAt_cons ?_ (allAt_cons ?_ (allAt_cons ?_ (allAt_cons ?_ (allAt_cons ?_ (allAt_cons ?_ (allAt_cons ?_ (allAt_cons ?_ (allAt_cons ?_ (allAt_cons ?_ (allAt_cons ?_ (allAt_cons ?_ (allAt_cons ?_ (allAt_cons ?_ (allAt_cons ?_ (allAt_nil)))))))))))))))))))))))))))))))))))))))
    · intro x W hR hdep K hK
      clear hdep
      have cX := (blockC hR.box).1
      simp only [lay, Act.put, List.setIfInBounds_toArray, List.set_cons_zero, List.set_cons_succ] at hK ⊢
      go_simp
      exact hK _ _ hR (fun _ _ _ h => h) rfl
    · intro x W hR hdep K hK
      have g0 : x 51 = .agg #[.int .i64 k, .int .i64 q] := hdep ⟨0, .data⟩ (by simp) rfl _ rfl
      clear hdep
      simp only [lay, Act.put, List.setIfInBounds_toArray, List.set_cons_zero, List.set_cons_succ, g0] at hK ⊢
      go_simp
      refine (C7.out W).mono ?_
      rintro r w' ⟨rfl, hb⟩
      exact hK _ _ (hR.next hb) (goods_below _ hb _) rfl
    · intro x W hR hdep K hK
      clear hdep
      have cX := (blockC hR.box).1
      simp only [lay, Act.put, List.setIfInBounds_toArray, List.set_cons_zero, List.set_cons_succ] at hK ⊢
      go_simp
      exact hK _ _ hR (fun _ _ _ h => h) rfl
    · intro x W hR hdep K hK
      have g0 : x 53 = .agg #[.int .i64 k, .int .i64 q] := hdep ⟨2, .data⟩ (by simp) rfl _ rfl
      clear hdep
      simp only [lay, Act.put, List.setIfInBounds_toArray, List.set_cons_zero, List.set_cons_succ, g0] at hK ⊢
      go_simp
      refine (C8.out W).mono ?_
      rintro r w' ⟨rfl, hb⟩
      exact hK _ _ (hR.next hb) (goods_below _ hb _) rfl
    · intro x W hR hdep K hK
      have g0 : x 52 = .int .i64 pe := hdep ⟨1, .data⟩ (by simp) rfl _ rfl
      have g1 : x 54 = .int .i64 pe := hdep ⟨3, .data⟩ (by simp) rfl _ rfl
      clear hdep
      simp only [lay, Act.put, List.setIfInBounds_toArray, List.set_cons_zero, List.set_cons_succ, g0, g1] at hK ⊢
      go_simp
      exact hK _ _ hR (fun _ _ _ h => h) rfl
    · intro x W hR hdep K hK
      have g0 : x 55 = .bool true := hdep ⟨4, .data⟩ (by simp) rfl _ rfl
      clear hdep
      simp only [lay, Act.put, List.setIfInBounds_toArray, List.set_cons_zero, List.set_cons_succ, g0] at hK ⊢
      go_simp
      exact hK _ _ hR (fun _ _ _ h => h) rfl
    · intro x W hR hdep K hK
      have g0 : x 56 = .bool true := hdep ⟨5, .guard⟩ (by simp) rfl _ rfl
      clear hdep
      simp only [lay, Act.put, List.setIfInBounds_toArray, List.set_cons_zero, List.set_cons_succ, g0] at hK ⊢
      go_simp
      exact hK _ _ hR (fun _ _ _ h => h) rfl
    · intro x W hR hdep K hK
      have g0 : x 56 = .bool true := hdep ⟨5, .guard⟩ (by simp) rfl _ rfl
      clear hdep
      simp only [lay, Act.put, List.setIfInBounds_toArray, List.set_cons_zero, List.set_cons_succ, g0] at hK ⊢
      go_simp
      exact hK _ _ hR (fun _ _ _ h => h) rfl
    · intro x W hR hdep K hK
      have g0 : x 57 = .int .i64 pb := hdep ⟨6, .data⟩ (by simp) rfl _ rfl
      have g1 : x 58 = .int .i64 pb := hdep ⟨7, .data⟩ (by simp) rfl _ rfl
      have g2 : x 56 = .bool true := hdep ⟨5, .guard⟩ (by simp) rfl _ rfl
      clear hdep
      simp only [lay, Act.put, List.setIfInBounds_toArray, List.set_cons_zero, List.set_cons_succ, g0, g1, g2] at hK ⊢
      go_simp
      exact hK _ _ hR (fun _ _ _ h => h) rfl
    · intro x W hR hdep K hK
      have g0 : x 56 = .bool true := hdep ⟨5, .data⟩ (by simp) rfl _ rfl
      have g1 : x 59 = .bool true := hdep ⟨8, .data⟩ (by simp) rfl _ rfl
      clear hdep
      simp only [lay, Act.put, List.setIfInBounds_toArray, List.set_cons_zero, List.set_cons_succ, g0, g1] at hK ⊢
      go_simp
      exact hK _ _ hR (fun _ _ _ h => h) rfl
    · intro x W hR hdep K hK
      have g0 : x 60 = .bool true := hdep ⟨9, .data⟩ (by simp) rfl _ rfl
      clear hdep
      simp only [lay, Act.put, List.setIfInBounds_toArray, List.set_cons_zero, List.set_cons_succ, g0] at hK ⊢
      go_simp
      exact hK _ _ hR (fun _ _ _ h => h) rfl
    · intro x W hR hdep K hK
      have g0 : x 61 = .bool true := hdep ⟨10, .guard⟩ (by simp) rfl _ rfl
      clear hdep
      simp only [lay, Act.put, List.setIfInBounds_toArray, List.set_cons_zero, List.set_cons_succ, g0] at hK ⊢
      go_simp
      exact hK _ _ hR (fun _ _ _ h => h) rfl
    · intro x W hR hdep K hK
      have g0 : x 61 = .bool true := hdep ⟨10, .guard⟩ (by simp) rfl _ rfl
      clear hdep
      simp only [lay, Act.put, List.setIfInBounds_toArray, List.set_cons_zero, List.set_cons_succ, g0] at hK ⊢
      go_simp
      exact hK _ _ hR (fun _ _ _ h => h) rfl
    · intro x W hR hdep K hK
      have g0 : x 62 = .int .i64 pe := hdep ⟨11, .data⟩ (by simp) rfl _ rfl
      have g1 : x 63 = .int .i64 pe := hdep ⟨12, .data⟩ (by simp) rfl _ rfl
      have g2 : x 61 = .bool true := hdep ⟨10, .guard⟩ (by simp) rfl _ rfl
      clear hdep
      simp only [lay, Act.put, List.setIfInBounds_toArray, List.set_cons_zero, List.set_cons_succ, g0, g1, g2] at hK ⊢
      go_simp
      exact hK _ _ hR (fun _ _ _ h => h) rfl
    · intro x W hR hdep K hK
      have g0 : x 61 = .bool true := hdep ⟨10, .data⟩ (by simp) rfl _ rfl
      have g1 : x 64 = .bool true := hdep ⟨13, .data⟩ (by simp) rfl _ rfl
      clear hdep
      simp only [lay, Act.put, List.setIfInBounds_toArray, List.set_cons_zero, List.set_cons_succ, g0, g1] at hK ⊢
      go_simp
      exact hK _ _ hR (fun _ _ _ h => h) rfl
    · intro x W hR hdep K hK
      have g0 : x 65 = .bool true := hdep ⟨14, .data⟩ (by simp) rfl _ rfl
      clear hdep
      simp only [lay, Act.put, List.setIfInBounds_toArray, List.set_cons_zero, List.set_cons_succ, g0] at hK ⊢
      go_simp
      exact hK _ _ hR (fun _ _ _ h => h) rfl
    · intro x W hR hdep K hK
      have g0 : x 66 = .bool true := hdep ⟨15, .guard⟩ (by simp) rfl _ rfl
      clear hdep
      have cX := (blockC hR.sys).1
      simp only [lay, Act.put, List.setIfInBounds_toArray, List.set_cons_zero, List.set_cons_succ, g0] at hK ⊢
      go_simp
      exact hK _ _ hR (fun _ _ _ h => h) (EU.out.symm)
    · intro x W hR hdep K hK
      have g0 : x 66 = .bool true := hdep ⟨15, .guard⟩ (by simp) rfl _ rfl
      clear hdep
      have cX := (blockC hR.ref).1
      simp only [lay, Act.put, List.setIfInBounds_toArray, List.set_cons_zero, List.set_cons_succ, g0] at hK ⊢
      go_simp
      exact hK _ _ hR (fun _ _ _ h => h) (EV.out.symm)
    · intro x W hR hdep K hK
      have g0 : x 67 = u := hdep ⟨16, .data⟩ (by simp) rfl _ rfl
      have g1 : x 68 = v := hdep ⟨17, .data⟩ (by simp) rfl _ rfl
      have g2 : x 66 = .bool true := hdep ⟨15, .guard⟩ (by simp) rfl _ rfl
      clear hdep
      simp only [lay, Act.put, List.setIfInBounds_toArray, List.set_cons_zero, List.set_cons_succ, g0.trans EU.out, g1.trans EV.out, g2] at hK ⊢
      go_simp
      have hu := hR.hu
      have hv := hR.hv
      rw [EU.out] at hu
      rw [EV.out] at hv
      refine (C9.out _ _ W hu hv).mono ?_
      rintro r w' ⟨rfl, hb⟩
      exact hK _ _ (hR.next hb) (goods_below _ hb _) rfl
    · intro x W hR hdep K hK
      have g0 : x 66 = .bool true := hdep ⟨15, .data⟩ (by simp) rfl _ rfl
      have g1 : x 69 = .bool true := hdep ⟨18, .data⟩ (by simp) rfl _ rfl
      clear hdep
      simp only [lay, Act.put, List.setIfInBounds_toArray, List.set_cons_zero, List.set_cons_succ, g0, g1] at hK ⊢
      go_simp
      exact hK _ _ hR (fun _ _ _ h => h) rfl
    · intro x W hR hdep K hK
      have g0 : x 70 = .bool true := hdep ⟨19, .data⟩ (by simp) rfl _ rfl
      clear hdep
      simp only [lay, Act.put, List.setIfInBounds_toArray, List.set_cons_zero, List.set_cons_succ, g0] at hK ⊢
      go_simp
      exact hK _ _ hR (fun _ _ _ h => h) rfl
    · intro x W hR hdep K hK
      have g0 : x 71 = .bool true := hdep ⟨20, .guard⟩ (by simp) rfl _ rfl
      clear hdep
      simp only [lay, Act.put, List.setIfInBounds_toArray, List.set_cons_zero, List.set_cons_succ, g0] at hK ⊢
      go_simp
      exact hK _ _ hR (fun _ _ _ h => h) rfl
    · intro x W hR hdep K hK
      have g0 : x 71 = .bool true := hdep ⟨20, .guard⟩ (by simp) rfl _ rfl
      clear hdep
      simp only [lay, Act.put, List.setIfInBounds_toArray, List.set_cons_zero, List.set_cons_succ, g0] at hK ⊢
      go_simp
      exact hK _ _ hR (fun _ _ _ h => h) rfl
    · intro x W hR hdep K hK
      have g0 : x 72 = .int .i64 se := hdep ⟨21, .data⟩ (by simp) rfl _ rfl
      have g1 : x 73 = .int .i64 se := hdep ⟨22, .data⟩ (by simp) rfl _ rfl
      have g2 : x 71 = .bool true := hdep ⟨20, .guard⟩ (by simp) rfl _ rfl
      clear hdep
      simp only [lay, Act.put, List.setIfInBounds_toArray, List.set_cons_zero, List.set_cons_succ, g0, g1, g2] at hK ⊢
      go_simp
      exact hK _ _ hR (fun _ _ _ h => h) rfl
    · intro x W hR hdep K hK
      have g0 : x 71 = .bool true := hdep ⟨20, .data⟩ (by simp) rfl _ rfl
      have g1 : x 74 = .bool true := hdep ⟨23, .data⟩ (by simp) rfl _ rfl
      clear hdep
      simp only [lay, Act.put, List.setIfInBounds_toArray, List.set_cons_zero, List.set_cons_succ, g0, g1] at hK ⊢
      go_simp
      exact hK _ _ hR (fun _ _ _ h => h) rfl
    · intro x W hR hdep K hK
      have g0 : x 75 = .bool true := hdep ⟨24, .data⟩ (by simp) rfl _ rfl
      clear hdep
      simp only [lay, Act.put, List.setIfInBounds_toArray, List.set_cons_zero, List.set_cons_succ, g0] at hK ⊢
      go_simp
      exact hK _ _ hR (fun _ _ _ h => h) rfl
    · intro x W hR hdep K hK
      have g0 : x 76 = .bool true := hdep ⟨25, .guard⟩ (by simp) rfl _ rfl
      clear hdep
      simp only [lay, Act.put, List.setIfInBounds_toArray, List.set_cons_zero, List.set_cons_succ, g0] at hK ⊢
      go_simp
      exact hK _ _ hR (fun _ _ _ h => h) rfl
    · intro x W hR hdep K hK
      have g0 : x 76 = .bool true := hdep ⟨25, .guard⟩ (by simp) rfl _ rfl
      clear hdep
      simp only [lay, Act.put, List.setIfInBounds_toArray, List.set_cons_zero, List.set_cons_succ, g0] at hK ⊢
      go_simp
      exact hK _ _ hR (fun _ _ _ h => h) rfl
    · intro x W hR hdep K hK
      have g0 : x 77 = .int .i64 bd := hdep ⟨26, .data⟩ (by simp) rfl _ rfl
      have g1 : x 78 = .int .i64 bd := hdep ⟨27, .data⟩ (by simp) rfl _ rfl
      have g2 : x 76 = .bool true := hdep ⟨25, .guard⟩ (by simp) rfl _ rfl
      clear hdep
      simp only [lay, Act.put, List.setIfInBounds_toArray, List.set_cons_zero, List.set_cons_succ, g0, g1, g2] at hK ⊢
      go_simp
      exact hK _ _ hR (fun _ _ _ h => h) rfl
    · intro x W hR hdep K hK
      have g0 : x 76 = .bool true := hdep ⟨25, .data⟩ (by simp) rfl _ rfl
      have g1 : x 79 = .bool true := hdep ⟨28, .data⟩ (by simp) rfl _ rfl
      clear hdep
      simp only [lay, Act.put, List.setIfInBounds_toArray, List.set_cons_zero, List.set_cons_succ, g0, g1] at hK ⊢
      go_simp
      exact hK _ _ hR (fun _ _ _ h => h) rfl
    · intro x W hR hdep K hK
      have g0 : x 80 = .bool true := hdep ⟨29, .data⟩ (by simp) rfl _ rfl
      clear hdep
      simp only [lay, Act.put, List.setIfInBounds_toArray, List.set_cons_zero, List.set_cons_succ, g0] at hK ⊢
      go_simp
      exact hK _ _ hR (fun _ _ _ h => h) rfl
    · intro x W hR hdep K hK
      have g0 : x 81 = .bool true := hdep ⟨30, .guard⟩ (by simp) rfl _ rfl
      clear hdep
      simp only [lay, Act.put, List.setIfInBounds_toArray, List.set_cons_zero, List.set_cons_succ, g0] at hK ⊢
      go_simp
      exact hK _ _ hR (fun _ _ _ h => h) rfl
    · intro x W hR hdep K hK
      have g0 : x 81 = .bool true := hdep ⟨30, .guard⟩ (by simp) rfl _ rfl
      clear hdep
      simp only [lay, Act.put, List.setIfInBounds_toArray, List.set_cons_zero, List.set_cons_succ, g0] at hK ⊢
      go_simp
      exact hK _ _ hR (fun _ _ _ h => h) rfl
    · intro x W hR hdep K hK
      have g0 : x 82 = .int .i64 se := hdep ⟨31, .data⟩ (by simp) rfl _ rfl
      have g1 : x 83 = .int .i64 se := hdep ⟨32, .data⟩ (by simp) rfl _ rfl
      have g2 : x 81 = .bool true := hdep ⟨30, .guard⟩ (by simp) rfl _ rfl
      clear hdep
      simp only [lay, Act.put, List.setIfInBounds_toArray, List.set_cons_zero, List.set_cons_succ, g0, g1, g2] at hK ⊢
      go_simp
      exact hK _ _ hR (fun _ _ _ h => h) rfl
    · intro x W hR hdep K hK
      have g0 : x 81 = .bool true := hdep ⟨30, .data⟩ (by simp) rfl _ rfl
      have g1 : x 84 = .bool true := hdep ⟨33, .data⟩ (by simp) rfl _ rfl
      clear hdep
      simp only [lay, Act.put, List.setIfInBounds_toArray, List.set_cons_zero, List.set_cons_succ, g0, g1] at hK ⊢
      go_simp
      exact hK _ _ hR (fun _ _ _ h => h) rfl
    · intro x W hR hdep K hK
      have g0 : x 85 = .bool true := hdep ⟨34, .data⟩ (by simp) rfl _ rfl
      clear hdep
      simp only [lay, Act.put, List.setIfInBounds_toArray, List.set_cons_zero, List.set_cons_succ, g0] at hK ⊢
      go_simp
      exact hK _ _ hR (fun _ _ _ h => h) rfl
    · intro x W hR hdep K hK
      have g0 : x 86 = .bool true := hdep ⟨35, .guard⟩ (by simp) rfl _ rfl
      clear hdep
      simp only [lay, Act.put, List.setIfInBounds_toArray, List.set_cons_zero, List.set_cons_succ, g0] at hK ⊢
      go_simp
      refine (awake_any W).mono ?_
      rintro r w' ⟨rfl, hb⟩
      exact hK _ _ (hR.next hb) (goods_below _ hb _) rfl
    · intro x W hR hdep K hK
      have g0 : x 86 = .bool true := hdep ⟨35, .data⟩ (by simp) rfl _ rfl
      have g1 : x 87 = .bool true := hdep ⟨36, .data⟩ (by simp) rfl _ rfl
      clear hdep
      simp only [lay, Act.put, List.setIfInBounds_toArray, List.set_cons_zero, List.set_cons_succ, g0, g1] at hK ⊢
      go_simp
      exact hK _ _ hR (fun _ _ _ h => h) rfl
    · intro x W hR hdep K hK
      have g0 : x 88 = .bool true := hdep ⟨37, .data⟩ (by simp) rfl _ rfl
      clear hdep
      simp only [lay, Act.put, List.setIfInBounds_toArray, List.set_cons_zero, List.set_cons_succ, g0] at hK ⊢
      go_simp
      exact hK _ _ hR (fun _ _ _ h => h) rfl
  case refine_3 =>
    intro x W hR hG
    have h4 : x 4 = .bool true := hG 38 _ rfl
    have HR := Lib.hid hR.below
    clear hG hR
    simp only [lay, Act.put, List.setIfInBounds_toArray, List.set_cons_zero, List.set_cons_succ, h4]
    go_wp2
    go_ret
    exact ⟨rfl, HR.out⟩
end Go.Proofs.Ytadkpndfbfjmfaa
