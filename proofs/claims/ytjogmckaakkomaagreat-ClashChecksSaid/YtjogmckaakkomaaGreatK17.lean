/- A round of the mixing, by the reference, both kinds. No condition. -/
import Derived.Test.YtjogmckaakkomaaGreatK15
import Derived.Test.YtjogmckaakkomaaGreatK16
namespace Go.Proofs.YtjogmckaakkomaaGreat
open Go.ChangeShapes Go.WideShapes Go.ChangeAt Go.RowKit Go.Joins
attribute [local go_sem] Oper.semAt_some

def AllAt (p : Nat → Oper → Prop) : Nat → List Oper → Prop
 | _, [] => True
 | n, o :: l => p n o ∧ AllAt p (n + 1) l
theorem allAt_cons {p : Nat → Oper → Prop} {n : Nat} {o : Oper} {l : List Oper} (h : p n o) (h' : AllAt p (n + 1) l) : AllAt p n (o :: l) := ⟨h, h'⟩
theorem allAt_nil {p : Nat → Oper → Prop} {n : Nat} : AllAt p n [] := trivial
theorem allAt_at {p : Nat → Oper → Prop} : ∀ (l : List Oper) (n : Nat), AllAt p n l → ∀ i o, l[i]? = some o → p (n + i) o
 | [], _, _, i, o, h => by simp at h
 | a :: l, n, h, 0, o, e => by simp at e; subst e; exact h.1
 | a :: l, n, h, i + 1, o, e => by
  have := allAt_at l (n + 1) h.2 i o (by simpa using e)
  rw [show n + (i + 1) = n + 1 + i by omega]
  exact this
theorem allAt_spec {p : Nat → Oper → Prop} {l : List Oper} (h : AllAt p 0 l) : ∀ i o, l[i]? = some o → p i o := fun i o hi => by
 have := allAt_at l 0 h i o hi
 rwa [Nat.zero_add] at this
theorem wanted_pos {o : Oper} {ys : Nat → Option Bool} (h : o.guard = none) : Region.wanted o ys = true := by unfold Region.wanted; rw [h]
def Stored (W : World) (b : Nat) (T : TypeId) (cs : Array Value) : Prop := W.heap[b]? = some (.cells cs T (0, 0))
/-- What each operation has left: a value; the store (at s): the block. -/
def GoodS (s b : Nat) (T : TypeId) (cs : Array Value) (L : List Value) (i : Nat) (v : Value) (W : World) : Prop :=
 if i = s then Stored W b T cs else match L[i]? with | some g => v = g | none => True
theorem goodS_below {s b : Nat} {T : TypeId} {cs : Array Value} (L : List Value) {W W' : World} (hb : Below W.heap.size W W') (i : Nat) : ∀ j u, j ≠ i → GoodS s b T cs L j u W → GoodS s b T cs L j u W' := by
 intro j u _ h
 unfold GoodS at *
 by_cases e : j = s
 ·rw [if_pos e] at h ⊢
  exact (hb.block b (Array.getElem?_eq_some_iff.1 h).1).trans h
 ·rw [if_neg e] at h ⊢
  exact h
theorem goodS_other {s b : Nat} {T : TypeId} {cs : Array Value} (L : List Value) {W W' : World} : ∀ j u, j ≠ s → GoodS s b T cs L j u W → GoodS s b T cs L j u W' := by
 intro j u e h
 unfold GoodS at *
 rw [if_neg e] at h ⊢
 exact h
theorem goodS_nil {s b : Nat} {T : TypeId} {cs : Array Value} {L : List Value} {i : Nat} (hs : i = s) (v : Value) (W : World) (h : GoodS s b T cs L i v W) : GoodS s b T cs L i undef W := by
 unfold GoodS at *
 rw [if_pos hs] at h ⊢
 exact h
theorem goodS_store {s b : Nat} {T : TypeId} {cs : Array Value} {L : List Value} {v : Value} {W : World} (h : Stored W b T cs) : GoodS s b T cs L s v W := by
 unfold GoodS; rw [if_pos rfl]; exact h
/-- All stays but the block b; as long as the store has not come up it is as it was. -/
def RS (b : Nat) (T : TypeId) (cs : Array Value) (w : World) (f : Bool) (W : World) : Prop := But b w W ∧ (f = false → Stored W b T cs)
theorem RS.next {b : Nat} {T : TypeId} {cs : Array Value} {w : World} {f g : Bool} {W W' : World} (h : RS b T cs w f W) (hb : Below W.heap.size W W') (hg : g = false → f = false) : RS b T cs w g W' :=
 ⟨h.1.trans (But.of_below hb), fun e => (hb.block b (Array.getElem?_eq_some_iff.1 (h.2 (hg e))).1).trans (h.2 (hg e))⟩
theorem RS.same {b : Nat} {T : TypeId} {cs : Array Value} {w : World} {f g : Bool} {W : World} (h : RS b T cs w f W) (hg : g = false → f = false) : RS b T cs w g W := ⟨h.1, fun e => h.2 (hg e)⟩
theorem or_ff {f b : Bool} (h : (f || b) = false) : f = false := by cases f <;> simp_all
theorem But.setRow {b : Nat} {w W : World} (h : But b w W) (cs : Array Value) : But b w (W.setRow b cs) := h.trans ⟨rfl, rfl, rfl, by simp [World.setRow], fun g _ hb => setRow_other _ _ _ _ hb⟩
set_option maxRecDepth 100000 in
set_option maxHeartbeats 4000000 in
theorem refRound64 (L0 M : List Int) (hL0 : Words 64 16 L0) (hM : Words 64 16 M) (r : Nat) (hr : r ≤ 11) (w : World) :
  Calls Tryz.prog 123 #[.agg (arrV .u64 L0), .agg (arrV .u64 M), .int .i64 r] w fun e w' => e = .returned (.tuple #[.agg (arrV .u64 (mixBig.round L0 M r)), .int .i64 0]) ∧ Below w.heap.size w w' := by
 obtain ⟨b0, hb0⟩ : ∃ b0, w.heap.size = b0 := ⟨_, rfl⟩
 have hr1 : ¬ ((r : Int) < 0) := by omega
 have hr2 : ¬ (11 < (r : Int)) := by omega
 have HS := Lib.hid (fun i (hi : i < 16) => refSigma_ok r i (by omega) hi)
 go_enter Tryz.func123, Tryz.ntmps123
 go_wp2_with fail
 refine letterW ?_
 intro W hW
 have hv : W.heap[b0]? = some (.cells (arrV .u64 L0) 123 (0, 0)) := by
  rw [hW]; exact (Below.heap_alloc _ _ _ (by simp; omega)).trans ((Below.heap_alloc _ _ _ (by simp; omega)).trans (World.alloc_new_at _ _ hb0.symm))
 have hm : W.heap[b0 + 1]? = some (.cells (arrV .u64 M) 123 (0, 0)) := by
  rw [hW]; exact (Below.heap_alloc _ _ _ (by simp; omega)).trans (World.alloc_new_at _ _ (by simp; omega))
 have hres : W.heap[b0 + 1 + 1]? = some (.cells #[.int .u64 0, .int .u64 0, .int .u64 0, .int .u64 0, .int .u64 0, .int .u64 0, .int .u64 0, .int .u64 0, .int .u64 0, .int .u64 0, .int .u64 0, .int .u64 0, .int .u64 0, .int .u64 0, .int .u64 0, .int .u64 0] 123 (0, 0)) := by
  rw [hW]; exact World.alloc_new_at _ _ (by simp; omega)
 have hB : Below w.heap.size w W := by
  rw [hW]; exact (((Below.refl w.heap.size w).alloc (Nat.le_refl _) _).alloc (by simp) _).alloc (by simp; omega) _
 have hs0 : b0 + 1 + 1 < W.heap.size := (Array.getElem?_eq_some_iff.1 hres).1
 clear hW
 have HV := Lib.hid hv
 have HM := Lib.hid hm
 have HR := Lib.hid hres
 have HB := Lib.hid hB
 clear hv hm hres hB
 go_loopw [8] (fun i wr => ∃ j : Nat, i = .int .i64 j ∧ j ≤ 8 ∧ wr.heap[b0]? = some (.cells (arrV .u64 (mixBig.turns L0 M r j)) 123 (0, 0)) ∧ But b0 W wr) (fun i _ => 8 - (intOf i).toNat)
 case atStart => exact ⟨0, rfl, Nat.zero_le _, HV.out, But.refl _ _⟩
 case round =>
  obtain ⟨j, rfl, hj, hv, hB⟩ := hrel
  have HVr := Lib.hid hv
  have HBr := Lib.hid hB
  have hsz := hB.size
  clear hv hB
  by_cases hlt : j < 8
  ·have hW1 := turns_words mixBig_ok hL0 (M := M) r j
   have hst : mixBig.turns L0 M r (j + 1) = mixBig.step (mixBig.turns L0 M r j) (plA j) (plB j) (plC j) (plD j) (wd M (sigN r (2 * j))) (wd M (sigN r (2 * j + 1))) := rfl
   have HST := Lib.hid hst
   have hW2 := turns_words mixBig_ok hL0 (M := M) r (j + 1)
   rw [hst] at hW2
   clear hst
   obtain ⟨p1, p2, p3, p4, p5, p6, p7, p8, p9, p10⟩ := pl_facts j hlt
   have HG := Lib.hid (fun W => refG64 (mixBig.turns L0 M r j) hW1 (plA j) (plB j) (plC j) (plD j) p1 p2 p3 p4 p5 p6 p7 p8 p9 p10 (wd M (sigN r (2 * j))) (wd M (sigN r (2 * j + 1))) W)
   have HS0 := Lib.hid (HS.out (2 * j) (by omega))
   have HS1 := Lib.hid (HS.out (2 * j + 1) (by omega))
   have s0 := sigN_lt r (2 * j)
   have s1 := sigN_lt r (2 * j + 1)
   have t0 : ((sigN r (2 * j) : Nat) : Int) < 16 := by omega
   have t1 : ((sigN r (2 * j + 1) : Nat) : Int) < 16 := by omega
   have hx : (arrV .u64 M)[sigN r (2 * j)]? = some (.int .u64 (wd M (sigN r (2 * j)))) := arrV_at hM s0
   have hy : (arrV .u64 M)[sigN r (2 * j + 1)]? = some (.int .u64 (wd M (sigN r (2 * j + 1)))) := arrV_at hM s1
   have HX := Lib.hid hx
   have HY := Lib.hid hy
   obtain ⟨L, hLe⟩ : ∃ L, mixBig.turns L0 M r j = L := ⟨_, rfl⟩
   rw [hLe] at HVr hW1 HG HST hW2
   obtain ⟨St, hSt⟩ : ∃ St, mixBig.step L (plA j) (plB j) (plC j) (plD j) (wd M (sigN r (2 * j))) (wd M (sigN r (2 * j + 1))) = St := ⟨_, rfl⟩
   rw [hSt] at HG HST hW2
   obtain ⟨mx, hmx⟩ : ∃ z, wd M (sigN r (2 * j)) = z := ⟨_, rfl⟩
   obtain ⟨my, hmy⟩ : ∃ z, wd M (sigN r (2 * j + 1)) = z := ⟨_, rfl⟩
   rw [hmx] at HX HG
   rw [hmy] at HY HG
   have HP := Lib.hid (refPlaces_ok j hlt)
   have e2j : IntKind.i64.wrap (2 * (j : Int)) = ((2 * j : Nat) : Int) := by rw [IntKind.wrap_i64]; omega
   have e2k : IntKind.i64.wrap (((2 * j : Nat) : Int) + 1) = ((2 * j + 1 : Nat) : Int) := by rw [IntKind.wrap_i64]; omega
   clear hLe hSt hmx hmy hx hy p1 p2 p3 p4 p5 p6 p7 p8 p9 p10
   generalize sigN r (2 * j) = sx at *
   generalize sigN r (2 * j + 1) = sy at *
   generalize 2 * j + 1 = k3 at *
   generalize 2 * j = k2 at *
   generalize plA j = pa at *
   generalize plB j = pb at *
   generalize plC j = pc at *
   generalize plD j = pd at *
   go_wp2_with fail
   refine (HP.out _).mono ?_; rintro e2 w2 ⟨rfl, hb2⟩
   have hv2 := (hb2.block b0 (by omega)).trans HVr.out
   have hm2 := (hb2.block (b0 + 1) (by omega)).trans ((HBr.out.block (b0 + 1) (by omega) (by omega)).trans HM.out)
   have hB2 := HBr.out.trans (But.of_below hb2)
   have hs2 := hb2.size
   clear hb2
   go_wp2_with fail
   refine letterW ?_
   intro Wp hWp
   obtain ⟨bp, hbp⟩ : ∃ bp, w2.heap.size = bp := ⟨_, rfl⟩
   have hv3 : Wp.heap[b0]? = some (.cells (arrV .u64 L) 123 (0, 0)) := by rw [hWp]; exact (Below.heap_alloc _ _ _ (by omega)).trans hv2
   have hm3 : Wp.heap[b0 + 1]? = some (.cells (arrV .u64 M) 123 (0, 0)) := by rw [hWp]; exact (Below.heap_alloc _ _ _ (by omega)).trans hm2
   have hp3 : Wp.heap[bp]? = some (.cells #[.int .i64 pa, .int .i64 pb, .int .i64 pc, .int .i64 pd] 211 (0, 0)) := by rw [hWp]; exact World.alloc_new_at _ _ hbp.symm
   have hB3 : But b0 W Wp := by rw [hWp]; exact hB2.alloc _
   have hbs : bp < Wp.heap.size := (Array.getElem?_eq_some_iff.1 hp3).1
   have hms : b0 + 1 < Wp.heap.size := (Array.getElem?_eq_some_iff.1 hm3).1
   have hbb : bp ≠ b0 := by omega
   rw [hbp]
   have HV3 := Lib.hid hv3
   have HM3 := Lib.hid hm3
   have HP3 := Lib.hid hp3
   have HB3 := Lib.hid hB3
   clear hWp hv2 hm2 hB2 hs2 hbp hv3 hm3 hp3 hB3
   refine wp_region_inv2 (s := 26) (ds := [24, 25, 26, 27, 28, 29, 30, 31, 32, 33, 34, 35, 36, 37, 38, 39, 40, 41, 42, 43, 44, 45, 46, 23, 47, 48]) (R := RS b0 123 (arrV .u64 L) Wp) (Good := GoodS 26 b0 123 (arrV .u64 St) [.agg (arrV .u64 L), .pointer (some ⟨bp, 0, none⟩), .int .i64 pa, .pointer (some ⟨bp, 1, none⟩), .int .i64 pb, .pointer (some ⟨bp, 2, none⟩), .int .i64 pc, .pointer (some ⟨bp, 3, none⟩), .int .i64 pd, .int .i64 r, .int .i64 j, .int .i64 k2, .int .i64 sx, .pointer (some ⟨b0 + 1, sx, none⟩), .int .u64 mx, .int .i64 r, .int .i64 j, .int .i64 k2, .int .i64 k3, .int .i64 sy, .pointer (some ⟨b0 + 1, sy, none⟩), .int .u64 my, .tuple #[.agg (arrV .u64 St), .int .i64 0], .tuple #[.agg (arrV .u64 St), .int .i64 0], .agg (arrV .u64 St), .int .i64 0]) rfl (by decide) (by kernel_rfl) (by kernel_rfl) ?_ ?_ ?_ ?_
   case refine_1 => exact ⟨(But.refl b0 Wp).trans (But.of_below (Below.refl _ _).drew), fun _ => HV3.out⟩
   case refine_2 =>
    refine allAt_spec (p := _) ?_
    refine allAt_cons ?_ (allAt_cons ?_ (allAt_cons ?_ (allAt_cons ?_ (allAt_cons ?_ (allAt_cons ?_ (allAt_cons ?_ (allAt_cons ?_ (allAt_cons ?_ (allAt_cons ?_ (allAt_cons ?_ (allAt_cons ?_ (allAt_cons ?_ (allAt_cons ?_ (allAt_cons ?_ (allAt_cons ?_ (allAt_cons ?_ (allAt_cons ?_ (allAt_cons ?_ (allAt_cons ?_ (allAt_cons ?_ (allAt_cons ?_ (allAt_cons ?_ (allAt_cons ?_ (allAt_cons ?_ (allAt_cons ?_ (allAt_cons ?_ (allAt_nil)))))))))))))))))))))))))))
    ·intro f x W' hR hwait hdep K hK
     clear hdep
     have hst := hR.2 (hwait (by kernel_rfl))
     simp only [lay, Act.put, List.setIfInBounds_toArray, List.set_cons_zero, List.set_cons_succ] at hK ⊢
     rw [if_pos (wanted_pos rfl)]
     refine wp_load_row 123 _ rfl b0 rfl _ _ _ _ hst Tryz.underlying123 rfl (by rw [arrV_size, hW1.1]; kernel_rfl) ?_
     exact hK _ _ (hR.same or_ff) (fun _ _ _ h => h) rfl
    ·intro f x W' hR hwait hdep K hK
     clear hdep
     clear hwait
     simp only [lay, Act.put, List.setIfInBounds_toArray, List.set_cons_zero, List.set_cons_succ] at hK ⊢
     go_simp
     exact hK _ _ (hR.same or_ff) (fun _ _ _ h => h) rfl
    ·intro f x W' hR hwait hdep K hK
     have g0 : x 25 = .pointer (some ⟨bp, 0, none⟩) := hdep ⟨1, .data⟩ (by simp) rfl _ rfl
     clear hdep
     have cP := (rowFacts ((hR.1.block bp hbs hbb).trans HP3.out)).1
     clear hwait
     simp only [lay, Act.put, List.setIfInBounds_toArray, List.set_cons_zero, List.set_cons_succ, g0] at hK ⊢
     go_simp
     exact hK _ _ (hR.same or_ff) (fun _ _ _ h => h) rfl
    ·intro f x W' hR hwait hdep K hK
     clear hdep
     clear hwait
     simp only [lay, Act.put, List.setIfInBounds_toArray, List.set_cons_zero, List.set_cons_succ] at hK ⊢
     go_simp
     exact hK _ _ (hR.same or_ff) (fun _ _ _ h => h) rfl
    ·intro f x W' hR hwait hdep K hK
     have g0 : x 27 = .pointer (some ⟨bp, 1, none⟩) := hdep ⟨3, .data⟩ (by simp) rfl _ rfl
     clear hdep
     have cP := (rowFacts ((hR.1.block bp hbs hbb).trans HP3.out)).1
     clear hwait
     simp only [lay, Act.put, List.setIfInBounds_toArray, List.set_cons_zero, List.set_cons_succ, g0] at hK ⊢
     go_simp
     exact hK _ _ (hR.same or_ff) (fun _ _ _ h => h) rfl
    ·intro f x W' hR hwait hdep K hK
     clear hdep
     clear hwait
     simp only [lay, Act.put, List.setIfInBounds_toArray, List.set_cons_zero, List.set_cons_succ] at hK ⊢
     go_simp
     exact hK _ _ (hR.same or_ff) (fun _ _ _ h => h) rfl
    ·intro f x W' hR hwait hdep K hK
     have g0 : x 29 = .pointer (some ⟨bp, 2, none⟩) := hdep ⟨5, .data⟩ (by simp) rfl _ rfl
     clear hdep
     have cP := (rowFacts ((hR.1.block bp hbs hbb).trans HP3.out)).1
     clear hwait
     simp only [lay, Act.put, List.setIfInBounds_toArray, List.set_cons_zero, List.set_cons_succ, g0] at hK ⊢
     go_simp
     exact hK _ _ (hR.same or_ff) (fun _ _ _ h => h) rfl
    ·intro f x W' hR hwait hdep K hK
     clear hdep
     clear hwait
     simp only [lay, Act.put, List.setIfInBounds_toArray, List.set_cons_zero, List.set_cons_succ] at hK ⊢
     go_simp
     exact hK _ _ (hR.same or_ff) (fun _ _ _ h => h) rfl
    ·intro f x W' hR hwait hdep K hK
     have g0 : x 31 = .pointer (some ⟨bp, 3, none⟩) := hdep ⟨7, .data⟩ (by simp) rfl _ rfl
     clear hdep
     have cP := (rowFacts ((hR.1.block bp hbs hbb).trans HP3.out)).1
     clear hwait
     simp only [lay, Act.put, List.setIfInBounds_toArray, List.set_cons_zero, List.set_cons_succ, g0] at hK ⊢
     go_simp
     exact hK _ _ (hR.same or_ff) (fun _ _ _ h => h) rfl
    ·intro f x W' hR hwait hdep K hK
     clear hdep
     clear hwait
     simp only [lay, Act.put, List.setIfInBounds_toArray, List.set_cons_zero, List.set_cons_succ] at hK ⊢
     go_simp
     exact hK _ _ (hR.same or_ff) (fun _ _ _ h => h) rfl
    ·intro f x W' hR hwait hdep K hK
     clear hdep
     clear hwait
     simp only [lay, Act.put, List.setIfInBounds_toArray, List.set_cons_zero, List.set_cons_succ] at hK ⊢
     go_simp
     exact hK _ _ (hR.same or_ff) (fun _ _ _ h => h) rfl
    ·intro f x W' hR hwait hdep K hK
     have g0 : x 34 = .int .i64 j := hdep ⟨10, .data⟩ (by simp) rfl _ rfl
     clear hdep
     clear hwait
     simp only [lay, Act.put, List.setIfInBounds_toArray, List.set_cons_zero, List.set_cons_succ, g0] at hK ⊢
     go_simp
     exact hK _ _ (hR.same or_ff) (fun _ _ _ h => h) rfl
    ·intro f x W' hR hwait hdep K hK
     have g0 : x 33 = .int .i64 r := hdep ⟨9, .data⟩ (by simp) rfl _ rfl
     have g1 : x 35 = .int .i64 k2 := hdep ⟨11, .data⟩ (by simp) rfl _ rfl
     clear hdep
     clear hwait
     simp only [lay, Act.put, List.setIfInBounds_toArray, List.set_cons_zero, List.set_cons_succ, g0, g1] at hK ⊢
     go_simp
     refine (HS0.out W').mono ?_
     rintro e4 w4 ⟨rfl, rfl⟩
     exact hK _ _ (hR.same or_ff) (fun _ _ _ h => h) rfl
    ·intro f x W' hR hwait hdep K hK
     have g0 : x 36 = .int .i64 sx := hdep ⟨12, .data⟩ (by simp) rfl _ rfl
     clear hdep
     clear hwait
     simp only [lay, Act.put, List.setIfInBounds_toArray, List.set_cons_zero, List.set_cons_succ, g0] at hK ⊢
     go_simp
     exact hK _ _ (hR.same or_ff) (fun _ _ _ h => h) rfl
    ·intro f x W' hR hwait hdep K hK
     have g0 : x 37 = .pointer (some ⟨b0 + 1, sx, none⟩) := hdep ⟨13, .data⟩ (by simp) rfl _ rfl
     clear hdep
     have cM := (cellOfRow ((hR.1.block (b0 + 1) hms (by omega)).trans HM3.out) sx).trans HX.out
     clear hwait
     simp only [lay, Act.put, List.setIfInBounds_toArray, List.set_cons_zero, List.set_cons_succ, g0] at hK ⊢
     go_simp
     exact hK _ _ (hR.same or_ff) (fun _ _ _ h => h) rfl
    ·intro f x W' hR hwait hdep K hK
     clear hdep
     clear hwait
     simp only [lay, Act.put, List.setIfInBounds_toArray, List.set_cons_zero, List.set_cons_succ] at hK ⊢
     go_simp
     exact hK _ _ (hR.same or_ff) (fun _ _ _ h => h) rfl
    ·intro f x W' hR hwait hdep K hK
     clear hdep
     clear hwait
     simp only [lay, Act.put, List.setIfInBounds_toArray, List.set_cons_zero, List.set_cons_succ] at hK ⊢
     go_simp
     exact hK _ _ (hR.same or_ff) (fun _ _ _ h => h) rfl
    ·intro f x W' hR hwait hdep K hK
     have g0 : x 40 = .int .i64 j := hdep ⟨16, .data⟩ (by simp) rfl _ rfl
     clear hdep
     clear hwait
     simp only [lay, Act.put, List.setIfInBounds_toArray, List.set_cons_zero, List.set_cons_succ, g0] at hK ⊢
     go_simp
     exact hK _ _ (hR.same or_ff) (fun _ _ _ h => h) rfl
    ·intro f x W' hR hwait hdep K hK
     have g0 : x 41 = .int .i64 k2 := hdep ⟨17, .data⟩ (by simp) rfl _ rfl
     clear hdep
     clear hwait
     simp only [lay, Act.put, List.setIfInBounds_toArray, List.set_cons_zero, List.set_cons_succ, g0] at hK ⊢
     go_simp
     exact hK _ _ (hR.same or_ff) (fun _ _ _ h => h) rfl
    ·intro f x W' hR hwait hdep K hK
     have g0 : x 39 = .int .i64 r := hdep ⟨15, .data⟩ (by simp) rfl _ rfl
     have g1 : x 42 = .int .i64 k3 := hdep ⟨18, .data⟩ (by simp) rfl _ rfl
     clear hdep
     clear hwait
     simp only [lay, Act.put, List.setIfInBounds_toArray, List.set_cons_zero, List.set_cons_succ, g0, g1] at hK ⊢
     go_simp
     refine (HS1.out W').mono ?_
     rintro e4 w4 ⟨rfl, rfl⟩
     exact hK _ _ (hR.same or_ff) (fun _ _ _ h => h) rfl
    ·intro f x W' hR hwait hdep K hK
     have g0 : x 43 = .int .i64 sy := hdep ⟨19, .data⟩ (by simp) rfl _ rfl
     clear hdep
     clear hwait
     simp only [lay, Act.put, List.setIfInBounds_toArray, List.set_cons_zero, List.set_cons_succ, g0] at hK ⊢
     go_simp
     exact hK _ _ (hR.same or_ff) (fun _ _ _ h => h) rfl
    ·intro f x W' hR hwait hdep K hK
     have g0 : x 44 = .pointer (some ⟨b0 + 1, sy, none⟩) := hdep ⟨20, .data⟩ (by simp) rfl _ rfl
     clear hdep
     have cM := (cellOfRow ((hR.1.block (b0 + 1) hms (by omega)).trans HM3.out) sy).trans HY.out
     clear hwait
     simp only [lay, Act.put, List.setIfInBounds_toArray, List.set_cons_zero, List.set_cons_succ, g0] at hK ⊢
     go_simp
     exact hK _ _ (hR.same or_ff) (fun _ _ _ h => h) rfl
    ·intro f x W' hR hwait hdep K hK
     have g0 : x 24 = .agg (arrV .u64 L) := hdep ⟨0, .data⟩ (by simp) rfl _ rfl
     have g1 : x 26 = .int .i64 pa := hdep ⟨2, .data⟩ (by simp) rfl _ rfl
     have g2 : x 28 = .int .i64 pb := hdep ⟨4, .data⟩ (by simp) rfl _ rfl
     have g3 : x 30 = .int .i64 pc := hdep ⟨6, .data⟩ (by simp) rfl _ rfl
     have g4 : x 32 = .int .i64 pd := hdep ⟨8, .data⟩ (by simp) rfl _ rfl
     have g5 : x 38 = .int .u64 mx := hdep ⟨14, .data⟩ (by simp) rfl _ rfl
     have g6 : x 45 = .int .u64 my := hdep ⟨21, .data⟩ (by simp) rfl _ rfl
     clear hdep
     clear hwait
     simp only [lay, Act.put, List.setIfInBounds_toArray, List.set_cons_zero, List.set_cons_succ, g0, g1, g2, g3, g4, g5, g6] at hK ⊢
     go_simp
     refine (HG.out W').mono ?_
     rintro e4 w4 ⟨rfl, hb4⟩
     exact hK _ _ (hR.next hb4 or_ff) (goodS_below _ hb4 _) rfl
    ·intro f x W' hR hwait hdep K hK
     have g0 : x 46 = .tuple #[.agg (arrV .u64 St), .int .i64 0] := hdep ⟨22, .data⟩ (by simp) rfl _ rfl
     clear hdep
     clear hwait
     simp only [lay, Act.put, List.setIfInBounds_toArray, List.set_cons_zero, List.set_cons_succ, g0] at hK ⊢
     go_simp
     exact hK _ _ (hR.same or_ff) (fun _ _ _ h => h) rfl
    ·intro f x W' hR hwait hdep K hK
     have g0 : x 23 = .tuple #[.agg (arrV .u64 St), .int .i64 0] := hdep ⟨23, .data⟩ (by simp) rfl _ rfl
     clear hdep
     clear hwait
     simp only [lay, Act.put, List.setIfInBounds_toArray, List.set_cons_zero, List.set_cons_succ, g0] at hK ⊢
     go_simp
     exact hK _ _ (hR.same or_ff) (fun _ _ _ h => h) rfl
    ·intro f x W' hR hwait hdep K hK
     have g0 : x 23 = .tuple #[.agg (arrV .u64 St), .int .i64 0] := hdep ⟨23, .data⟩ (by simp) rfl _ rfl
     clear hdep
     clear hwait
     simp only [lay, Act.put, List.setIfInBounds_toArray, List.set_cons_zero, List.set_cons_succ, g0] at hK ⊢
     go_simp
     exact hK _ _ (hR.same or_ff) (fun _ _ _ h => h) rfl
    ·intro f x W' hR hwait hdep K hK
     have g0 : x 47 = .agg (arrV .u64 St) := hdep ⟨24, .data⟩ (by simp) rfl _ rfl
     clear hdep
     have hst := hR.2 (hwait (by kernel_rfl))
     simp only [lay, Act.put, List.setIfInBounds_toArray, List.set_cons_zero, List.set_cons_succ, g0] at hK ⊢
     rw [if_pos (wanted_pos rfl)]
     refine wp_store_row 123 _ _ rfl b0 (arrV .u64 St) rfl rfl _ _ hst (by rw [arrV_size, hW2.1]; kernel_rfl) (by simp only [arrV_size, hW2.1, hW1.1]) arrV_all ?_
     exact hK undef _ ⟨hR.1.setRow _, fun e => by simp at e⟩ (goodS_other _) (goodS_store (setRow_heap _ _ _ _ _ _ hst))
   case refine_3 =>
    refine allAt_spec (p := fun i (o : Oper) => ∀ v W, o.dst = none → GoodS 26 b0 123 (arrV .u64 St) _ i v W → GoodS 26 b0 123 (arrV .u64 St) _ i undef W) ?_ |> fun h i o v W hi => h i o hi v W
    refine allAt_cons ?_ (allAt_cons ?_ (allAt_cons ?_ (allAt_cons ?_ (allAt_cons ?_ (allAt_cons ?_ (allAt_cons ?_ (allAt_cons ?_ (allAt_cons ?_ (allAt_cons ?_ (allAt_cons ?_ (allAt_cons ?_ (allAt_cons ?_ (allAt_cons ?_ (allAt_cons ?_ (allAt_cons ?_ (allAt_cons ?_ (allAt_cons ?_ (allAt_cons ?_ (allAt_cons ?_ (allAt_cons ?_ (allAt_cons ?_ (allAt_cons ?_ (allAt_cons ?_ (allAt_cons ?_ (allAt_cons ?_ (allAt_cons ?_ (allAt_nil)))))))))))))))))))))))))))
    all_goals first | (intro v W h; cases h; done) | exact fun v W _ h => goodS_nil rfl v W h
   case refine_4 =>
    intro f x W' hR hG
    have hS : Stored W' b0 123 (arrV .u64 St) := hG 26 _ rfl
    have HS4 := Lib.hid hS
    have HB4 := Lib.hid (HB3.out.trans hR.1)
    clear hS hR hG
    simp only [lay, Act.put, List.setIfInBounds_toArray, List.set_cons_zero, List.set_cons_succ]
    go_wp2
    exact ⟨⟨j + 1, rfl, by omega, by rw [HST.out]; exact HS4.out, HB4.out⟩, by simp [intOf]; omega⟩
  ·obtain rfl : j = 8 := by omega
   have hW1 := turns_words mixBig_ok hL0 (M := M) r 8
   have HL := Lib.hid (show Ending.returned (.tuple #[.agg (arrV .u64 (mixBig.turns L0 M r 8)), .int .i64 0]) = .returned (.tuple #[.agg (arrV .u64 (mixBig.round L0 M r)), .int .i64 0]) from rfl)
   have hr5 := (HBr.out.block (b0 + 1 + 1) hs0 (by omega)).trans HR.out
   have HB5 := Lib.hid (HB.out.trans (HBr.out.below (by omega) HB.out.size))
   generalize mixBig.turns L0 M r 8 = L at *
   go_upto_region 8 with (fail)
   apply wp_region_lit
   refine wpList_load_row rfl 123 _ rfl b0 rfl _ _ _ _ HVr.out Tryz.underlying123 rfl (by rw [arrV_size, hW1.1]; kernel_rfl) ?_
   refine wpList_store_row rfl 123 _ _ rfl (b0 + 1 + 1) (arrV .u64 L) rfl rfl 123 _ hr5 (by rw [arrV_size, hW1.1]; kernel_rfl) (by rw [arrV_size, hW1.1]; rfl) arrV_all ?_
   simp only [Act.put, List.setIfInBounds_toArray, List.set_cons_zero, List.set_cons_succ]
   go_wp2_with fail
   exact bodyPost_ret (results_row_tmp rfl _ _ _ _ _ _ _ rfl (setRow_heap _ _ _ _ _ _ hr5) Tryz.underlying123 rfl (by rw [arrV_size, hW1.1]; kernel_rfl)) rfl ⟨Eq.trans (b := .returned (.tuple #[.agg (arrV .u64 L), .int .i64 0])) rfl HL.out, below_setRow (HB5.out.mono (by omega)) (by omega) _⟩
set_option maxRecDepth 100000 in
set_option maxHeartbeats 4000000 in
theorem refRound32 (L0 M : List Int) (hL0 : Words 32 16 L0) (hM : Words 32 16 M) (r : Nat) (hr : r ≤ 9) (w : World) :
  Calls Tryz.prog 126 #[.agg (arrV .u32 L0), .agg (arrV .u32 M), .int .i64 r] w fun e w' => e = .returned (.tuple #[.agg (arrV .u32 (mixSmall.round L0 M r)), .int .i64 0]) ∧ Below w.heap.size w w' := by
 obtain ⟨b0, hb0⟩ : ∃ b0, w.heap.size = b0 := ⟨_, rfl⟩
 have hr1 : ¬ ((r : Int) < 0) := by omega
 have hr2 : ¬ (9 < (r : Int)) := by omega
 have HS := Lib.hid (fun i (hi : i < 16) => refSigma_ok r i (by omega) hi)
 go_enter Tryz.func126, Tryz.ntmps126
 go_wp2_with fail
 refine letterW ?_
 intro W hW
 have hv : W.heap[b0]? = some (.cells (arrV .u32 L0) 174 (0, 0)) := by
  rw [hW]; exact (Below.heap_alloc _ _ _ (by simp; omega)).trans ((Below.heap_alloc _ _ _ (by simp; omega)).trans (World.alloc_new_at _ _ hb0.symm))
 have hm : W.heap[b0 + 1]? = some (.cells (arrV .u32 M) 174 (0, 0)) := by
  rw [hW]; exact (Below.heap_alloc _ _ _ (by simp; omega)).trans (World.alloc_new_at _ _ (by simp; omega))
 have hres : W.heap[b0 + 1 + 1]? = some (.cells #[.int .u32 0, .int .u32 0, .int .u32 0, .int .u32 0, .int .u32 0, .int .u32 0, .int .u32 0, .int .u32 0, .int .u32 0, .int .u32 0, .int .u32 0, .int .u32 0, .int .u32 0, .int .u32 0, .int .u32 0, .int .u32 0] 174 (0, 0)) := by
  rw [hW]; exact World.alloc_new_at _ _ (by simp; omega)
 have hB : Below w.heap.size w W := by
  rw [hW]; exact (((Below.refl w.heap.size w).alloc (Nat.le_refl _) _).alloc (by simp) _).alloc (by simp; omega) _
 have hs0 : b0 + 1 + 1 < W.heap.size := (Array.getElem?_eq_some_iff.1 hres).1
 clear hW
 have HV := Lib.hid hv
 have HM := Lib.hid hm
 have HR := Lib.hid hres
 have HB := Lib.hid hB
 clear hv hm hres hB
 go_loopw [8] (fun i wr => ∃ j : Nat, i = .int .i64 j ∧ j ≤ 8 ∧ wr.heap[b0]? = some (.cells (arrV .u32 (mixSmall.turns L0 M r j)) 174 (0, 0)) ∧ But b0 W wr) (fun i _ => 8 - (intOf i).toNat)
 case atStart => exact ⟨0, rfl, Nat.zero_le _, HV.out, But.refl _ _⟩
 case round =>
  obtain ⟨j, rfl, hj, hv, hB⟩ := hrel
  have HVr := Lib.hid hv
  have HBr := Lib.hid hB
  have hsz := hB.size
  clear hv hB
  by_cases hlt : j < 8
  ·have hW1 := turns_words mixSmall_ok hL0 (M := M) r j
   have hst : mixSmall.turns L0 M r (j + 1) = mixSmall.step (mixSmall.turns L0 M r j) (plA j) (plB j) (plC j) (plD j) (wd M (sigN r (2 * j))) (wd M (sigN r (2 * j + 1))) := rfl
   have HST := Lib.hid hst
   have hW2 := turns_words mixSmall_ok hL0 (M := M) r (j + 1)
   rw [hst] at hW2
   clear hst
   obtain ⟨p1, p2, p3, p4, p5, p6, p7, p8, p9, p10⟩ := pl_facts j hlt
   have HG := Lib.hid (fun W => refG32 (mixSmall.turns L0 M r j) hW1 (plA j) (plB j) (plC j) (plD j) p1 p2 p3 p4 p5 p6 p7 p8 p9 p10 (wd M (sigN r (2 * j))) (wd M (sigN r (2 * j + 1))) W)
   have HS0 := Lib.hid (HS.out (2 * j) (by omega))
   have HS1 := Lib.hid (HS.out (2 * j + 1) (by omega))
   have s0 := sigN_lt r (2 * j)
   have s1 := sigN_lt r (2 * j + 1)
   have t0 : ((sigN r (2 * j) : Nat) : Int) < 16 := by omega
   have t1 : ((sigN r (2 * j + 1) : Nat) : Int) < 16 := by omega
   have hx : (arrV .u32 M)[sigN r (2 * j)]? = some (.int .u32 (wd M (sigN r (2 * j)))) := arrV_at hM s0
   have hy : (arrV .u32 M)[sigN r (2 * j + 1)]? = some (.int .u32 (wd M (sigN r (2 * j + 1)))) := arrV_at hM s1
   have HX := Lib.hid hx
   have HY := Lib.hid hy
   obtain ⟨L, hLe⟩ : ∃ L, mixSmall.turns L0 M r j = L := ⟨_, rfl⟩
   rw [hLe] at HVr hW1 HG HST hW2
   obtain ⟨St, hSt⟩ : ∃ St, mixSmall.step L (plA j) (plB j) (plC j) (plD j) (wd M (sigN r (2 * j))) (wd M (sigN r (2 * j + 1))) = St := ⟨_, rfl⟩
   rw [hSt] at HG HST hW2
   obtain ⟨mx, hmx⟩ : ∃ z, wd M (sigN r (2 * j)) = z := ⟨_, rfl⟩
   obtain ⟨my, hmy⟩ : ∃ z, wd M (sigN r (2 * j + 1)) = z := ⟨_, rfl⟩
   rw [hmx] at HX HG
   rw [hmy] at HY HG
   have HP := Lib.hid (four_ok j hlt)
   have e2j : IntKind.i64.wrap (2 * (j : Int)) = ((2 * j : Nat) : Int) := by rw [IntKind.wrap_i64]; omega
   have e2k : IntKind.i64.wrap (((2 * j : Nat) : Int) + 1) = ((2 * j + 1 : Nat) : Int) := by rw [IntKind.wrap_i64]; omega
   clear hLe hSt hmx hmy hx hy p1 p2 p3 p4 p5 p6 p7 p8 p9 p10
   generalize sigN r (2 * j) = sx at *
   generalize sigN r (2 * j + 1) = sy at *
   generalize 2 * j + 1 = k3 at *
   generalize 2 * j = k2 at *
   generalize plA j = pa at *
   generalize plB j = pb at *
   generalize plC j = pc at *
   generalize plD j = pd at *
   go_wp2_with fail
   refine (HP.out _).mono ?_; rintro e2 w2 ⟨rfl, rfl⟩
   go_wp2_with fail
   refine letterW ?_
   intro Wp hWp
   have hv3 : Wp.heap[b0]? = some (.cells (arrV .u32 L) 174 (0, 0)) := by rw [hWp]; exact HVr.out
   have hm3 : Wp.heap[b0 + 1]? = some (.cells (arrV .u32 M) 174 (0, 0)) := by rw [hWp]; exact (HBr.out.block (b0 + 1) (by omega) (by omega)).trans HM.out
   have hB3 : But b0 W Wp := by rw [hWp]; exact HBr.out
   have hms : b0 + 1 < Wp.heap.size := (Array.getElem?_eq_some_iff.1 hm3).1
   have HV3 := Lib.hid hv3
   have HM3 := Lib.hid hm3
   have HB3 := Lib.hid hB3
   clear hWp hv3 hm3 hB3
   refine wp_region_inv2 (s := 22) (ds := [32, 33, 34, 35, 36, 37, 38, 39, 40, 41, 42, 43, 44, 45, 46, 47, 48, 49, 50, 31, 51, 52]) (R := RS b0 174 (arrV .u32 L) Wp) (Good := GoodS 22 b0 174 (arrV .u32 St) [.agg (arrV .u32 L), .int .i64 pa, .int .i64 pb, .int .i64 pc, .int .i64 pd, .int .i64 r, .int .i64 j, .int .i64 k2, .int .i64 sx, .pointer (some ⟨b0 + 1, sx, none⟩), .int .u32 mx, .int .i64 r, .int .i64 j, .int .i64 k2, .int .i64 k3, .int .i64 sy, .pointer (some ⟨b0 + 1, sy, none⟩), .int .u32 my, .tuple #[.agg (arrV .u32 St), .int .i64 0], .tuple #[.agg (arrV .u32 St), .int .i64 0], .agg (arrV .u32 St), .int .i64 0]) rfl (by decide) (by kernel_rfl) (by kernel_rfl) ?_ ?_ ?_ ?_
   case refine_1 => exact ⟨(But.refl b0 Wp).trans (But.of_below (Below.refl _ _).drew), fun _ => HV3.out⟩
   case refine_2 =>
    refine allAt_spec (p := _) ?_
    refine allAt_cons ?_ (allAt_cons ?_ (allAt_cons ?_ (allAt_cons ?_ (allAt_cons ?_ (allAt_cons ?_ (allAt_cons ?_ (allAt_cons ?_ (allAt_cons ?_ (allAt_cons ?_ (allAt_cons ?_ (allAt_cons ?_ (allAt_cons ?_ (allAt_cons ?_ (allAt_cons ?_ (allAt_cons ?_ (allAt_cons ?_ (allAt_cons ?_ (allAt_cons ?_ (allAt_cons ?_ (allAt_cons ?_ (allAt_cons ?_ (allAt_cons ?_ (allAt_nil)))))))))))))))))))))))
    ·intro f x W' hR hwait hdep K hK
     clear hdep
     have hst := hR.2 (hwait (by kernel_rfl))
     simp only [lay, Act.put, List.setIfInBounds_toArray, List.set_cons_zero, List.set_cons_succ] at hK ⊢
     rw [if_pos (wanted_pos rfl)]
     refine wp_load_row 174 _ rfl b0 rfl _ _ _ _ hst Tryz.underlying174 rfl (by rw [arrV_size, hW1.1]; kernel_rfl) ?_
     exact hK _ _ (hR.same or_ff) (fun _ _ _ h => h) rfl
    ·intro f x W' hR hwait hdep K hK
     clear hdep
     clear hwait
     simp only [lay, Act.put, List.setIfInBounds_toArray, List.set_cons_zero, List.set_cons_succ] at hK ⊢
     go_simp
     exact hK _ _ (hR.same or_ff) (fun _ _ _ h => h) rfl
    ·intro f x W' hR hwait hdep K hK
     clear hdep
     clear hwait
     simp only [lay, Act.put, List.setIfInBounds_toArray, List.set_cons_zero, List.set_cons_succ] at hK ⊢
     go_simp
     exact hK _ _ (hR.same or_ff) (fun _ _ _ h => h) rfl
    ·intro f x W' hR hwait hdep K hK
     clear hdep
     clear hwait
     simp only [lay, Act.put, List.setIfInBounds_toArray, List.set_cons_zero, List.set_cons_succ] at hK ⊢
     go_simp
     exact hK _ _ (hR.same or_ff) (fun _ _ _ h => h) rfl
    ·intro f x W' hR hwait hdep K hK
     clear hdep
     clear hwait
     simp only [lay, Act.put, List.setIfInBounds_toArray, List.set_cons_zero, List.set_cons_succ] at hK ⊢
     go_simp
     exact hK _ _ (hR.same or_ff) (fun _ _ _ h => h) rfl
    ·intro f x W' hR hwait hdep K hK
     clear hdep
     clear hwait
     simp only [lay, Act.put, List.setIfInBounds_toArray, List.set_cons_zero, List.set_cons_succ] at hK ⊢
     go_simp
     exact hK _ _ (hR.same or_ff) (fun _ _ _ h => h) rfl
    ·intro f x W' hR hwait hdep K hK
     clear hdep
     clear hwait
     simp only [lay, Act.put, List.setIfInBounds_toArray, List.set_cons_zero, List.set_cons_succ] at hK ⊢
     go_simp
     exact hK _ _ (hR.same or_ff) (fun _ _ _ h => h) rfl
    ·intro f x W' hR hwait hdep K hK
     have g0 : x 38 = .int .i64 j := hdep ⟨6, .data⟩ (by simp) rfl _ rfl
     clear hdep
     clear hwait
     simp only [lay, Act.put, List.setIfInBounds_toArray, List.set_cons_zero, List.set_cons_succ, g0] at hK ⊢
     go_simp
     exact hK _ _ (hR.same or_ff) (fun _ _ _ h => h) rfl
    ·intro f x W' hR hwait hdep K hK
     have g0 : x 37 = .int .i64 r := hdep ⟨5, .data⟩ (by simp) rfl _ rfl
     have g1 : x 39 = .int .i64 k2 := hdep ⟨7, .data⟩ (by simp) rfl _ rfl
     clear hdep
     clear hwait
     simp only [lay, Act.put, List.setIfInBounds_toArray, List.set_cons_zero, List.set_cons_succ, g0, g1] at hK ⊢
     go_simp
     refine (HS0.out W').mono ?_
     rintro e4 w4 ⟨rfl, rfl⟩
     exact hK _ _ (hR.same or_ff) (fun _ _ _ h => h) rfl
    ·intro f x W' hR hwait hdep K hK
     have g0 : x 40 = .int .i64 sx := hdep ⟨8, .data⟩ (by simp) rfl _ rfl
     clear hdep
     clear hwait
     simp only [lay, Act.put, List.setIfInBounds_toArray, List.set_cons_zero, List.set_cons_succ, g0] at hK ⊢
     go_simp
     exact hK _ _ (hR.same or_ff) (fun _ _ _ h => h) rfl
    ·intro f x W' hR hwait hdep K hK
     have g0 : x 41 = .pointer (some ⟨b0 + 1, sx, none⟩) := hdep ⟨9, .data⟩ (by simp) rfl _ rfl
     clear hdep
     have cM := (cellOfRow ((hR.1.block (b0 + 1) hms (by omega)).trans HM3.out) sx).trans HX.out
     clear hwait
     simp only [lay, Act.put, List.setIfInBounds_toArray, List.set_cons_zero, List.set_cons_succ, g0] at hK ⊢
     go_simp
     exact hK _ _ (hR.same or_ff) (fun _ _ _ h => h) rfl
    ·intro f x W' hR hwait hdep K hK
     clear hdep
     clear hwait
     simp only [lay, Act.put, List.setIfInBounds_toArray, List.set_cons_zero, List.set_cons_succ] at hK ⊢
     go_simp
     exact hK _ _ (hR.same or_ff) (fun _ _ _ h => h) rfl
    ·intro f x W' hR hwait hdep K hK
     clear hdep
     clear hwait
     simp only [lay, Act.put, List.setIfInBounds_toArray, List.set_cons_zero, List.set_cons_succ] at hK ⊢
     go_simp
     exact hK _ _ (hR.same or_ff) (fun _ _ _ h => h) rfl
    ·intro f x W' hR hwait hdep K hK
     have g0 : x 44 = .int .i64 j := hdep ⟨12, .data⟩ (by simp) rfl _ rfl
     clear hdep
     clear hwait
     simp only [lay, Act.put, List.setIfInBounds_toArray, List.set_cons_zero, List.set_cons_succ, g0] at hK ⊢
     go_simp
     exact hK _ _ (hR.same or_ff) (fun _ _ _ h => h) rfl
    ·intro f x W' hR hwait hdep K hK
     have g0 : x 45 = .int .i64 k2 := hdep ⟨13, .data⟩ (by simp) rfl _ rfl
     clear hdep
     clear hwait
     simp only [lay, Act.put, List.setIfInBounds_toArray, List.set_cons_zero, List.set_cons_succ, g0] at hK ⊢
     go_simp
     exact hK _ _ (hR.same or_ff) (fun _ _ _ h => h) rfl
    ·intro f x W' hR hwait hdep K hK
     have g0 : x 43 = .int .i64 r := hdep ⟨11, .data⟩ (by simp) rfl _ rfl
     have g1 : x 46 = .int .i64 k3 := hdep ⟨14, .data⟩ (by simp) rfl _ rfl
     clear hdep
     clear hwait
     simp only [lay, Act.put, List.setIfInBounds_toArray, List.set_cons_zero, List.set_cons_succ, g0, g1] at hK ⊢
     go_simp
     refine (HS1.out W').mono ?_
     rintro e4 w4 ⟨rfl, rfl⟩
     exact hK _ _ (hR.same or_ff) (fun _ _ _ h => h) rfl
    ·intro f x W' hR hwait hdep K hK
     have g0 : x 47 = .int .i64 sy := hdep ⟨15, .data⟩ (by simp) rfl _ rfl
     clear hdep
     clear hwait
     simp only [lay, Act.put, List.setIfInBounds_toArray, List.set_cons_zero, List.set_cons_succ, g0] at hK ⊢
     go_simp
     exact hK _ _ (hR.same or_ff) (fun _ _ _ h => h) rfl
    ·intro f x W' hR hwait hdep K hK
     have g0 : x 48 = .pointer (some ⟨b0 + 1, sy, none⟩) := hdep ⟨16, .data⟩ (by simp) rfl _ rfl
     clear hdep
     have cM := (cellOfRow ((hR.1.block (b0 + 1) hms (by omega)).trans HM3.out) sy).trans HY.out
     clear hwait
     simp only [lay, Act.put, List.setIfInBounds_toArray, List.set_cons_zero, List.set_cons_succ, g0] at hK ⊢
     go_simp
     exact hK _ _ (hR.same or_ff) (fun _ _ _ h => h) rfl
    ·intro f x W' hR hwait hdep K hK
     have g0 : x 32 = .agg (arrV .u32 L) := hdep ⟨0, .data⟩ (by simp) rfl _ rfl
     have g1 : x 33 = .int .i64 pa := hdep ⟨1, .data⟩ (by simp) rfl _ rfl
     have g2 : x 34 = .int .i64 pb := hdep ⟨2, .data⟩ (by simp) rfl _ rfl
     have g3 : x 35 = .int .i64 pc := hdep ⟨3, .data⟩ (by simp) rfl _ rfl
     have g4 : x 36 = .int .i64 pd := hdep ⟨4, .data⟩ (by simp) rfl _ rfl
     have g5 : x 42 = .int .u32 mx := hdep ⟨10, .data⟩ (by simp) rfl _ rfl
     have g6 : x 49 = .int .u32 my := hdep ⟨17, .data⟩ (by simp) rfl _ rfl
     clear hdep
     clear hwait
     simp only [lay, Act.put, List.setIfInBounds_toArray, List.set_cons_zero, List.set_cons_succ, g0, g1, g2, g3, g4, g5, g6] at hK ⊢
     go_simp
     refine (HG.out W').mono ?_
     rintro e4 w4 ⟨rfl, hb4⟩
     exact hK _ _ (hR.next hb4 or_ff) (goodS_below _ hb4 _) rfl
    ·intro f x W' hR hwait hdep K hK
     have g0 : x 50 = .tuple #[.agg (arrV .u32 St), .int .i64 0] := hdep ⟨18, .data⟩ (by simp) rfl _ rfl
     clear hdep
     clear hwait
     simp only [lay, Act.put, List.setIfInBounds_toArray, List.set_cons_zero, List.set_cons_succ, g0] at hK ⊢
     go_simp
     exact hK _ _ (hR.same or_ff) (fun _ _ _ h => h) rfl
    ·intro f x W' hR hwait hdep K hK
     have g0 : x 31 = .tuple #[.agg (arrV .u32 St), .int .i64 0] := hdep ⟨19, .data⟩ (by simp) rfl _ rfl
     clear hdep
     clear hwait
     simp only [lay, Act.put, List.setIfInBounds_toArray, List.set_cons_zero, List.set_cons_succ, g0] at hK ⊢
     go_simp
     exact hK _ _ (hR.same or_ff) (fun _ _ _ h => h) rfl
    ·intro f x W' hR hwait hdep K hK
     have g0 : x 31 = .tuple #[.agg (arrV .u32 St), .int .i64 0] := hdep ⟨19, .data⟩ (by simp) rfl _ rfl
     clear hdep
     clear hwait
     simp only [lay, Act.put, List.setIfInBounds_toArray, List.set_cons_zero, List.set_cons_succ, g0] at hK ⊢
     go_simp
     exact hK _ _ (hR.same or_ff) (fun _ _ _ h => h) rfl
    ·intro f x W' hR hwait hdep K hK
     have g0 : x 51 = .agg (arrV .u32 St) := hdep ⟨20, .data⟩ (by simp) rfl _ rfl
     clear hdep
     have hst := hR.2 (hwait (by kernel_rfl))
     simp only [lay, Act.put, List.setIfInBounds_toArray, List.set_cons_zero, List.set_cons_succ, g0] at hK ⊢
     rw [if_pos (wanted_pos rfl)]
     refine wp_store_row 174 _ _ rfl b0 (arrV .u32 St) rfl rfl _ _ hst (by rw [arrV_size, hW2.1]; kernel_rfl) (by simp only [arrV_size, hW2.1, hW1.1]) arrV_all ?_
     exact hK undef _ ⟨hR.1.setRow _, fun e => by simp at e⟩ (goodS_other _) (goodS_store (setRow_heap _ _ _ _ _ _ hst))
   case refine_3 =>
    refine allAt_spec (p := fun i (o : Oper) => ∀ v W, o.dst = none → GoodS 22 b0 174 (arrV .u32 St) _ i v W → GoodS 22 b0 174 (arrV .u32 St) _ i undef W) ?_ |> fun h i o v W hi => h i o hi v W
    refine allAt_cons ?_ (allAt_cons ?_ (allAt_cons ?_ (allAt_cons ?_ (allAt_cons ?_ (allAt_cons ?_ (allAt_cons ?_ (allAt_cons ?_ (allAt_cons ?_ (allAt_cons ?_ (allAt_cons ?_ (allAt_cons ?_ (allAt_cons ?_ (allAt_cons ?_ (allAt_cons ?_ (allAt_cons ?_ (allAt_cons ?_ (allAt_cons ?_ (allAt_cons ?_ (allAt_cons ?_ (allAt_cons ?_ (allAt_cons ?_ (allAt_cons ?_ (allAt_nil)))))))))))))))))))))))
    all_goals first | (intro v W h; cases h; done) | exact fun v W _ h => goodS_nil rfl v W h
   case refine_4 =>
    intro f x W' hR hG
    have hS : Stored W' b0 174 (arrV .u32 St) := hG 22 _ rfl
    have HS4 := Lib.hid hS
    have HB4 := Lib.hid (HB3.out.trans hR.1)
    clear hS hR hG
    simp only [lay, Act.put, List.setIfInBounds_toArray, List.set_cons_zero, List.set_cons_succ]
    go_wp2
    exact ⟨⟨j + 1, rfl, by omega, by rw [HST.out]; exact HS4.out, HB4.out⟩, by simp [intOf]; omega⟩
  ·obtain rfl : j = 8 := by omega
   have hW1 := turns_words mixSmall_ok hL0 (M := M) r 8
   have HL := Lib.hid (show Ending.returned (.tuple #[.agg (arrV .u32 (mixSmall.turns L0 M r 8)), .int .i64 0]) = .returned (.tuple #[.agg (arrV .u32 (mixSmall.round L0 M r)), .int .i64 0]) from rfl)
   have hr5 := (HBr.out.block (b0 + 1 + 1) hs0 (by omega)).trans HR.out
   have HB5 := Lib.hid (HB.out.trans (HBr.out.below (by omega) HB.out.size))
   generalize mixSmall.turns L0 M r 8 = L at *
   go_upto_region 8 with (fail)
   apply wp_region_lit
   refine wpList_load_row rfl 174 _ rfl b0 rfl _ _ _ _ HVr.out Tryz.underlying174 rfl (by rw [arrV_size, hW1.1]; kernel_rfl) ?_
   refine wpList_store_row rfl 174 _ _ rfl (b0 + 1 + 1) (arrV .u32 L) rfl rfl 174 _ hr5 (by rw [arrV_size, hW1.1]; kernel_rfl) (by rw [arrV_size, hW1.1]; rfl) arrV_all ?_
   simp only [Act.put, List.setIfInBounds_toArray, List.set_cons_zero, List.set_cons_succ]
   go_wp2_with fail
   exact bodyPost_ret (results_row_tmp rfl _ _ _ _ _ _ _ rfl (setRow_heap _ _ _ _ _ _ hr5) Tryz.underlying174 rfl (by rw [arrV_size, hW1.1]; kernel_rfl)) rfl ⟨Eq.trans (b := .returned (.tuple #[.agg (arrV .u32 L), .int .i64 0])) rfl HL.out, below_setRow (HB5.out.mono (by omega)) (by omega) _⟩
end Go.Proofs.YtjogmckaakkomaaGreat
