/- A call of any kind, and two calls checked, by the program and by the reference. No condition. -/
import Derived.Test.YtjogmckaakkomaaGreatK42
import Derived.Test.YtjogmckaakkomaaGreatK53
namespace Go.Proofs.YtjogmckaakkomaaGreat
open Go.ChangeShapes Go.WideShapes Go.ChangeAt Go.RowKit Go.Joins Go.Shelf Go.Maps
attribute [local go_sem] Oper.semAt_some

/-- A call's error, of any kind. -/
def errK (c : CallV) (n : Int) : Prop := (c.kind = 1 ∧ callN true c.block c.key c.out n) ∨ (c.kind = 2 ∧ callN false c.block c.key c.out n) ∨ (c.kind ≠ 1 ∧ c.kind ≠ 2 ∧ n = 1)
theorem errK_same {c : CallV} {n m : Int} (h : errK c n) (k : errK c m) : n = m := by
 rcases h with ⟨h1, h2⟩ | ⟨h1, h2⟩ | ⟨h1, h2, h3⟩ <;> rcases k with ⟨k1, k2⟩ | ⟨k1, k2⟩ | ⟨k1, k2, k3⟩ <;> first | exact callN_same h2 k2 | omega
/-- A call's output, of any kind. -/
def outK (c : CallV) : List Int := callR (decide (c.kind = 1)) c.block c.key c.last c.out c.data
/-- What a call answers, of any kind. -/
def CallK (c : CallV) (w : World) (e : Ending) (w' : World) : Prop :=
 (∃ v n, e = .returned (.tuple #[v, .int .i64 n]) ∧ errK c n ∧ (n ≠ 0 → v = .slice none 0 0) ∧ (n = 0 → Fresh w.heap.size w' v (outK c))) ∧ Below w.heap.size w w'
theorem callK_true {c : CallV} {w : World} {e : Ending} {w' : World} (hk : c.kind = 1) (h : CallIs true c.block c.key c.last c.out c.data w e w') : CallK c w e w' := by
 obtain ⟨⟨v, n, e, h1, h2, h3⟩, hb⟩ := h
 exact ⟨⟨v, n, e, .inl ⟨hk, h1⟩, h2, fun h => by unfold outK; rw [decide_eq_true hk]; exact h3 h⟩, hb⟩
theorem callK_false {c : CallV} {w : World} {e : Ending} {w' : World} (hk : c.kind = 2) (h : CallIs false c.block c.key c.last c.out c.data w e w') : CallK c w e w' := by
 obtain ⟨⟨v, n, e, h1, h2, h3⟩, hb⟩ := h
 exact ⟨⟨v, n, e, .inr (.inl ⟨hk, h1⟩), h2, fun h => by unfold outK; rw [decide_eq_false (by omega)]; exact h3 h⟩, hb⟩
set_option maxRecDepth 100000 in
set_option maxHeartbeats 1000000 in
theorem call_other (k : Int) (la : Bool) (o : Int) (bv kv dv : Value) (w : World) (h1 : k ≠ 1) (h2 : k ≠ 2) :
  Calls Tryz.prog 27 #[.agg (callC k bv kv la o dv)] w fun e w' => e = .returned (.tuple #[.slice none 0 0, .int .i64 1]) ∧ Below w.heap.size w w' := by
 have q1 : (k != 1) = true := by rw [bne_iff_ne]; exact h1
 have q2 : (k != 2) = true := by rw [bne_iff_ne]; exact h2
 have hb : Below w.heap.size w (w.alloc (.cells #[.int .i64 k, bv, kv, .bool la, .int .i64 o, dv] 25)) := (Below.refl _ _).alloc (Nat.le_refl _) _
 have hr := World.alloc_heap_new w (.cells #[.int .i64 k, bv, kv, .bool la, .int .i64 o, dv] 25)
 have hs : w.heap.size < (w.alloc (.cells #[.int .i64 k, bv, kv, .bool la, .int .i64 o, dv] 25)).heap.size := (Array.getElem?_eq_some_iff.1 hr).1
 obtain ⟨b0, hb0⟩ : ∃ b0, w.heap.size = b0 := ⟨_, rfl⟩
 rw [hb0] at hr hb hs
 have HB := Lib.hid hb
 clear h1 h2 hb
 unfold callC
 go_enter Tryz.func27, Tryz.ntmps27
 go_upto_region 1 with (fail)
 generalize w.alloc (.cells #[.int .i64 k, bv, kv, .bool la, .int .i64 o, dv] 25) = W at *
 have c0 : W.cell? ⟨b0, 0, none⟩ = some (.int .i64 k) := cell_of_heap hr 0
 clear hr
 go_wp2_with fail
 go_ret2
 exact ⟨rfl, by rw [hb0]; exact HB.out⟩

set_option maxRecDepth 100000 in
set_option maxHeartbeats 1000000 in
theorem refCall_other (k : Int) (la : Bool) (o : Int) (bv kv dv : Value) (w : World) (h1 : k ≠ 1) (h2 : k ≠ 2) :
  Calls Tryz.prog 28 #[.agg (callC k bv kv la o dv)] w fun e w' => e = .returned (.tuple #[.slice none 0 0, .int .i64 1]) ∧ Below w.heap.size w w' := by
 have q1 : (k != 1) = true := by rw [bne_iff_ne]; exact h1
 have q2 : (k != 2) = true := by rw [bne_iff_ne]; exact h2
 have hb : Below w.heap.size w (w.alloc (.cells #[.int .i64 k, bv, kv, .bool la, .int .i64 o, dv] 25)) := (Below.refl _ _).alloc (Nat.le_refl _) _
 have hr := World.alloc_heap_new w (.cells #[.int .i64 k, bv, kv, .bool la, .int .i64 o, dv] 25)
 have hs : w.heap.size < (w.alloc (.cells #[.int .i64 k, bv, kv, .bool la, .int .i64 o, dv] 25)).heap.size := (Array.getElem?_eq_some_iff.1 hr).1
 obtain ⟨b0, hb0⟩ : ∃ b0, w.heap.size = b0 := ⟨_, rfl⟩
 rw [hb0] at hr hb hs
 have HB := Lib.hid hb
 clear h1 h2 hb
 unfold callC
 go_enter Tryz.func28, Tryz.ntmps28
 go_upto_region 1 with (fail)
 generalize w.alloc (.cells #[.int .i64 k, bv, kv, .bool la, .int .i64 o, dv] 25) = W at *
 have c0 : W.cell? ⟨b0, 0, none⟩ = some (.int .i64 k) := cell_of_heap hr 0
 clear hr
 go_wp2_with fail
 go_ret2
 exact ⟨rfl, by rw [hb0]; exact HB.out⟩

theorem callK_any (c : CallV) (v : Value) (w : World) (h : CallAt w v c) (hd : (c.data.length : Int) ≤ 140737488355200) :
  Calls Tryz.prog 27 #[v] w fun e w' => CallK c w e w' := by
 obtain ⟨bv, kv, dv, rfl, h1, h2, h3⟩ := h
 by_cases k1 : c.kind = 1
 ·have := call_true c.block c.key c.data c.last c.out bv kv dv w h1 h2 h3 hd
  rw [k1]
  exact this.mono (fun _ _ h => callK_true k1 h)
 by_cases k2 : c.kind = 2
 ·have := call_false c.block c.key c.data c.last c.out bv kv dv w h1 h2 h3 hd
  rw [k2]
  exact this.mono (fun _ _ h => callK_false k2 h)
 refine (call_other c.kind c.last c.out bv kv dv w k1 k2).mono ?_
 rintro e w' ⟨rfl, hb⟩
 exact ⟨⟨_, 1, rfl, .inr (.inr ⟨k1, k2, rfl⟩), fun _ => rfl, fun h => by simp at h⟩, hb⟩

theorem refCallK_any (c : CallV) (v : Value) (w : World) (h : CallAt w v c) (hd : (c.data.length : Int) ≤ 140737488355200) :
  Calls Tryz.prog 28 #[v] w fun e w' => CallK c w e w' := by
 obtain ⟨bv, kv, dv, rfl, h1, h2, h3⟩ := h
 by_cases k1 : c.kind = 1
 ·have := refCall_any true c.block c.key c.data c.last c.out bv kv dv w h1 h2 h3 hd
  rw [k1]
  exact this.mono (fun _ _ h => callK_true k1 h)
 by_cases k2 : c.kind = 2
 ·have := refCall_any false c.block c.key c.data c.last c.out bv kv dv w h1 h2 h3 hd
  rw [k2]
  exact this.mono (fun _ _ h => callK_false k2 h)
 refine (refCall_other c.kind c.last c.out bv kv dv w k1 k2).mono ?_
 rintro e w' ⟨rfl, hb⟩
 exact ⟨⟨_, 1, rfl, .inr (.inr ⟨k1, k2, rfl⟩), fun _ => rfl, fun h => by simp at h⟩, hb⟩

set_option maxRecDepth 100000 in
set_option maxHeartbeats 1000000 in
theorem refUnlike_ok (a b : CallV) (va vb : Value) (w : World) (ha : CallAt w va a) (hb : CallAt w vb b) :
  Calls Tryz.prog 8 #[va, vb] w fun e w' => e = .returned (.bool (!sameC a b)) ∧ Below w.heap.size w w' := by
 have HAL := Lib.hid (fun W (h : Below w.heap.size w W) => alike_ok a b va vb W (ha.below h) (hb.below h))
 obtain ⟨bv1, kv1, dv1, rfl, h1, h2, h3⟩ := ha
 obtain ⟨bv2, kv2, dv2, rfl, h4, h5, h6⟩ := hb
 clear h1 h2 h3 h4 h5 h6
 generalize sameC a b = q at *
 obtain ⟨k1, xs1, xs2, la1, o1, xs3⟩ := a
 obtain ⟨k2, ys1, ys2, la2, o2, ys3⟩ := b
 dsimp only at *
 unfold callC at *
 obtain ⟨b0, hb0⟩ : ∃ b0, w.heap.size = b0 := ⟨_, rfl⟩
 obtain ⟨b1, hb1⟩ : ∃ b1, (w.alloc (.cells #[.int .i64 k1, bv1, kv1, .bool la1, .int .i64 o1, dv1] 25)).heap.size = b1 := ⟨_, rfl⟩
 have hsz : w.heap.size < (w.alloc (.cells #[.int .i64 k1, bv1, kv1, .bool la1, .int .i64 o1, dv1] 25)).heap.size := (Array.getElem?_eq_some_iff.1 (World.alloc_heap_new w (.cells #[.int .i64 k1, bv1, kv1, .bool la1, .int .i64 o1, dv1] 25))).1
 have hbA : Below b0 w ((w.alloc (.cells #[.int .i64 k1, bv1, kv1, .bool la1, .int .i64 o1, dv1] 25)).alloc (.cells #[.int .i64 k2, bv2, kv2, .bool la2, .int .i64 o2, dv2] 25)) := by rw [← hb0]; exact ((Below.refl _ _).alloc (Nat.le_refl _) _).alloc (Nat.le_of_lt hsz) _
 have r0 : ((w.alloc (.cells #[.int .i64 k1, bv1, kv1, .bool la1, .int .i64 o1, dv1] 25)).alloc (.cells #[.int .i64 k2, bv2, kv2, .bool la2, .int .i64 o2, dv2] 25)).heap[b0]? = some (.cells #[.int .i64 k1, bv1, kv1, .bool la1, .int .i64 o1, dv1] 25 (0, 0)) := by
  rw [← hb0]; exact (Below.heap_alloc _ _ _ hsz).trans (World.alloc_heap_new w _)
 have r1 : ((w.alloc (.cells #[.int .i64 k1, bv1, kv1, .bool la1, .int .i64 o1, dv1] 25)).alloc (.cells #[.int .i64 k2, bv2, kv2, .bool la2, .int .i64 o2, dv2] 25)).heap[b1]? = some (.cells #[.int .i64 k2, bv2, kv2, .bool la2, .int .i64 o2, dv2] 25 (0, 0)) := by
  rw [← hb1]; exact World.alloc_heap_new (w.alloc _) _
 go_enter Tryz.func8, Tryz.ntmps8
 go_upto_region 1 with (fail)
 generalize ((w.alloc (.cells #[.int .i64 k1, bv1, kv1, .bool la1, .int .i64 o1, dv1] 25)).alloc (.cells #[.int .i64 k2, bv2, kv2, .bool la2, .int .i64 o2, dv2] 25)) = W at *
 have HA := Lib.hid hbA
 have R0 := Lib.hid r0
 have R1 := Lib.hid r1
 clear hbA r0 r1 hb1 hsz
 go_wp2_with (first | ((with_reducible show wpList _ _ _ (Oper.mk _ (Op.load 25 (Operand.tmp 2)) _ _ _ _ :: _) _ _); refine wpList_load_row rfl 25 _ rfl b0 rfl _ _ _ _ R0.out Tryz.underlying25 rfl (by kernel_rfl) ?_) | ((with_reducible show wpList _ _ _ (Oper.mk _ (Op.load 25 (Operand.tmp 3)) _ _ _ _ :: _) _ _); refine wpList_load_row rfl 25 _ rfl b1 rfl _ _ _ _ R1.out Tryz.underlying25 rfl (by kernel_rfl) ?_))
 refine (HAL.out W (hb0 ▸ HA.out)).mono ?_; rintro e w9 ⟨rfl, hw⟩
 have HB9 := Lib.hid (show Below b0 w w9 from HA.out.trans (hw.mono (by have := HA.out.size; omega)))
 clear hw
 cases q
 all_goals
  go_wp2_with fail
  go_ret
  exact ⟨rfl, by rw [hb0]; exact HB9.out⟩

end Go.Proofs.YtjogmckaakkomaaGreat
/- Two calls checked, by the program and by the reference. No condition. -/
namespace Go.Proofs.YtjogmckaakkomaaGreat
open Go.ChangeShapes Go.WideShapes Go.ChangeAt Go.RowKit Go.Joins Go.Shelf Go.Maps
attribute [local go_sem] Oper.semAt_some

/-- What a check answers. -/
def checkN (a b : CallV) (r : Bool) (n : Int) : Prop := (n ≠ 0 ∧ errK a n ∧ r = false) ∨ (n ≠ 0 ∧ errK a 0 ∧ errK b n ∧ r = false) ∨ (n = 0 ∧ errK a 0 ∧ errK b 0 ∧ r = (!sameC a b && decide (outK a = outK b)))
theorem checkN_same {a b : CallV} {r s : Bool} {n m : Int} (h : checkN a b r n) (k : checkN a b s m) : r = s ∧ n = m := by
 rcases h with ⟨h1, h2, rfl⟩ | ⟨h1, h2, h3, rfl⟩ | ⟨h1, h2, h3, rfl⟩ <;> rcases k with ⟨k1, k2, rfl⟩ | ⟨k1, k2, k3, rfl⟩ | ⟨k1, k2, k3, rfl⟩ <;> have e1 := errK_same h2 k2
 ·exact ⟨rfl, e1⟩
 ·exact absurd e1 h1
 ·exact absurd e1 h1
 ·exact absurd e1.symm k1
 ·exact ⟨rfl, errK_same h3 k3⟩
 ·exact absurd (errK_same h3 k3) h1
 ·exact absurd e1.symm k1
 ·exact absurd (errK_same h3 k3).symm k1
 ·exact ⟨rfl, by omega⟩
theorem outK_bounds (c : CallV) : ∀ z ∈ outK c, 0 ≤ z ∧ z ≤ 255 := fun z h => outZ_bounds _ _ _ _ z (List.mem_of_mem_take h)
set_option maxRecDepth 100000 in
set_option maxHeartbeats 4000000 in
theorem check_ok (a b : CallV) (va vb : Value) (w : World) (ha : CallAt w va a) (hb : CallAt w vb b) (hda : (a.data.length : Int) ≤ 140737488355200) (hdb : (b.data.length : Int) ≤ 140737488355200) :
  Calls Tryz.prog 9 #[va, vb] w fun e w' => (∃ r n, e = .returned (.tuple #[.bool r, .int .i64 n]) ∧ checkN a b r n) ∧ Below w.heap.size w w' := by
 have HCA := Lib.hid (fun W (h : Below w.heap.size w W) => callK_any a va W (ha.below h) hda)
 have HCB := Lib.hid (fun W (h : Below w.heap.size w W) => callK_any b vb W (hb.below h) hdb)
 have HU := Lib.hid (fun W (h : Below w.heap.size w W) => unlike_ok a b va vb W (ha.below h) (hb.below h))
 clear hda hdb
 obtain ⟨bv1, kv1, dv1, rfl, h1, h2, h3⟩ := ha
 obtain ⟨bv2, kv2, dv2, rfl, h4, h5, h6⟩ := hb
 clear h1 h2 h3 h4 h5 h6
 obtain ⟨q, hq⟩ : ∃ q, sameC a b = q := ⟨_, rfl⟩
 rw [hq] at HU
 obtain ⟨k1, hk1⟩ : ∃ k, a.kind = k := ⟨_, rfl⟩
 obtain ⟨la1, hla1⟩ : ∃ k, a.last = k := ⟨_, rfl⟩
 obtain ⟨o1, ho1⟩ : ∃ k, a.out = k := ⟨_, rfl⟩
 obtain ⟨k2, hk2⟩ : ∃ k, b.kind = k := ⟨_, rfl⟩
 obtain ⟨la2, hla2⟩ : ∃ k, b.last = k := ⟨_, rfl⟩
 obtain ⟨o2, ho2⟩ : ∃ k, b.out = k := ⟨_, rfl⟩
 rw [hk1, hla1, ho1] at HCA HU ⊢
 rw [hk2, hla2, ho2] at HCB HU ⊢
 clear hk1 hla1 ho1 hk2 hla2 ho2
 unfold callC at *
 have HQ := Lib.hid hq
 clear hq
 obtain ⟨b0, hb0⟩ : ∃ b0, w.heap.size = b0 := ⟨_, rfl⟩
 obtain ⟨b1, hb1⟩ : ∃ b1, (w.alloc (.cells #[.int .i64 k1, bv1, kv1, .bool la1, .int .i64 o1, dv1] 25)).heap.size = b1 := ⟨_, rfl⟩
 have hsz : w.heap.size < (w.alloc (.cells #[.int .i64 k1, bv1, kv1, .bool la1, .int .i64 o1, dv1] 25)).heap.size := (Array.getElem?_eq_some_iff.1 (World.alloc_heap_new w (.cells #[.int .i64 k1, bv1, kv1, .bool la1, .int .i64 o1, dv1] 25))).1
 have hbA : Below b0 w ((w.alloc (.cells #[.int .i64 k1, bv1, kv1, .bool la1, .int .i64 o1, dv1] 25)).alloc (.cells #[.int .i64 k2, bv2, kv2, .bool la2, .int .i64 o2, dv2] 25)) := by rw [← hb0]; exact ((Below.refl _ _).alloc (Nat.le_refl _) _).alloc (Nat.le_of_lt hsz) _
 have r0 : ((w.alloc (.cells #[.int .i64 k1, bv1, kv1, .bool la1, .int .i64 o1, dv1] 25)).alloc (.cells #[.int .i64 k2, bv2, kv2, .bool la2, .int .i64 o2, dv2] 25)).heap[b0]? = some (.cells #[.int .i64 k1, bv1, kv1, .bool la1, .int .i64 o1, dv1] 25 (0, 0)) := by
  rw [← hb0]; exact (Below.heap_alloc _ _ _ hsz).trans (World.alloc_heap_new w _)
 have r1 : ((w.alloc (.cells #[.int .i64 k1, bv1, kv1, .bool la1, .int .i64 o1, dv1] 25)).alloc (.cells #[.int .i64 k2, bv2, kv2, .bool la2, .int .i64 o2, dv2] 25)).heap[b1]? = some (.cells #[.int .i64 k2, bv2, kv2, .bool la2, .int .i64 o2, dv2] 25 (0, 0)) := by
  rw [← hb1]; exact World.alloc_heap_new (w.alloc _) _
 have hb01 : b0 < b1 := by rw [← hb0, ← hb1]; exact hsz
 go_enter Tryz.func9, Tryz.ntmps9
 go_upto_region 1 with (fail)
 generalize ((w.alloc (.cells #[.int .i64 k1, bv1, kv1, .bool la1, .int .i64 o1, dv1] 25)).alloc (.cells #[.int .i64 k2, bv2, kv2, .bool la2, .int .i64 o2, dv2] 25)) = W at *
 have HA := Lib.hid hbA
 have R0 := Lib.hid r0
 have R1 := Lib.hid r1
 clear hbA r0 r1 hb1 hsz
 go_wp2_with (first | ((with_reducible show wpList _ _ _ (Oper.mk _ (Op.load 25 (Operand.tmp 2)) _ _ _ _ :: _) _ _); refine wpList_load_row rfl 25 _ rfl b0 rfl _ _ _ _ R0.out Tryz.underlying25 rfl (by kernel_rfl) ?_) | ((with_reducible show wpList _ _ _ (Oper.mk _ (Op.load 25 (Operand.tmp 3)) _ _ _ _ :: _) _ _); refine wpList_load_row rfl 25 _ rfl b1 rfl _ _ _ _ R1.out Tryz.underlying25 rfl (by kernel_rfl) ?_))
 refine (HCA.out W (hb0 ▸ HA.out)).mono ?_; rintro e w1 ⟨⟨x, n1, rfl, hn1, hx1, hx2⟩, hw⟩
 have R0a := Lib.hid (rowStay R0.out hw)
 have R1a := Lib.hid (rowStay R1.out hw)
 have HA1 := Lib.hid (show Below b0 w w1 from HA.out.trans (hw.mono (by have := HA.out.size; omega)))
 have HN1 := Lib.hid hn1
 have HX2 := Lib.hid hx2
 clear hw hn1 hx1 hx2 R0 R1 HA HCA
 by_cases hn : n1 = 0
 case neg =>
  have hqn : (n1 != 0) = true := by rw [bne_iff_ne]; exact hn
  have HN := Lib.hid hn
  clear hn
  go_wp2_with fail
  go_ret2
  exact ⟨⟨false, n1, rfl, .inl ⟨HN.out, HN1.out, rfl⟩⟩, by rw [hb0]; exact HA1.out⟩
 subst hn
 go_wp2_with (first | ((with_reducible show wpList _ _ _ (Oper.mk _ (Op.load 25 (Operand.tmp 2)) _ _ _ _ :: _) _ _); refine wpList_load_row rfl 25 _ rfl b0 rfl _ _ _ _ R0a.out Tryz.underlying25 rfl (by kernel_rfl) ?_) | ((with_reducible show wpList _ _ _ (Oper.mk _ (Op.load 25 (Operand.tmp 3)) _ _ _ _ :: _) _ _); refine wpList_load_row rfl 25 _ rfl b1 rfl _ _ _ _ R1a.out Tryz.underlying25 rfl (by kernel_rfl) ?_))
 refine (HCB.out w1 (hb0 ▸ HA1.out)).mono ?_; rintro e w2 ⟨⟨y, n2, rfl, hn2, hy1, hy2⟩, hw⟩
 have R0b := Lib.hid (rowStay R0a.out hw)
 have R1b := Lib.hid (rowStay R1a.out hw)
 have HA2 := Lib.hid (show Below b0 w w2 from HA1.out.trans (hw.mono (by have := HA1.out.size; omega)))
 have HX := Lib.hid ((HX2.out (by trivial)).below hw |>.hold (outK_bounds a))
 have HN2 := Lib.hid hn2
 have HY2 := Lib.hid (fun h => (hy2 h).hold (outK_bounds b))
 clear hw hn2 hy1 hy2 R0a R1a HA1 HCB HX2
 by_cases hn : n2 = 0
 case neg =>
  have hqn : (n2 != 0) = true := by rw [bne_iff_ne]; exact hn
  have HN := Lib.hid hn
  clear hn
  go_wp2_with fail
  go_ret2
  exact ⟨⟨false, n2, rfl, .inr (.inl ⟨HN.out, HN1.out, HN2.out, rfl⟩)⟩, by rw [hb0]; exact HA2.out⟩
 subst hn
 have HY := Lib.hid (HY2.out rfl)
 clear HY2
 go_wp2_with (first | ((with_reducible show wpList _ _ _ (Oper.mk _ (Op.load 25 (Operand.tmp 2)) _ _ _ _ :: _) _ _); refine wpList_load_row rfl 25 _ rfl b0 rfl _ _ _ _ R0b.out Tryz.underlying25 rfl (by kernel_rfl) ?_) | ((with_reducible show wpList _ _ _ (Oper.mk _ (Op.load 25 (Operand.tmp 3)) _ _ _ _ :: _) _ _); refine wpList_load_row rfl 25 _ rfl b1 rfl _ _ _ _ R1b.out Tryz.underlying25 rfl (by kernel_rfl) ?_))
 refine (HU.out w2 (hb0 ▸ HA2.out)).mono ?_; rintro e w3 ⟨rfl, hw⟩
 have HA3 := Lib.hid (show Below b0 w w3 from HA2.out.trans (hw.mono (by have := HA2.out.size; omega)))
 have HX3 := Lib.hid (HX.out.below hw)
 have HY3 := Lib.hid (HY.out.below hw)
 clear hw HX HY HA2 R0b R1b HU
 cases q
 case true =>
  go_wp2_with fail
  go_ret2
  exact ⟨⟨false, 0, rfl, .inr (.inr ⟨rfl, HN1.out, HN2.out, by rw [HQ.out]; rfl⟩)⟩, by rw [hb0]; exact HA3.out⟩
 go_wp2_with fail
 refine (same_ok (outK a) (outK b) x y w3 HX3.out HY3.out).mono ?_; rintro e w4 ⟨rfl, hw⟩
 obtain rfl := hw
 obtain ⟨r, hr⟩ : ∃ r, decide (outK a = outK b) = r := ⟨_, rfl⟩
 rw [hr]
 have HR := Lib.hid hr
 clear hr
 go_wp2_with fail
 go_ret2
 exact ⟨⟨r, 0, rfl, .inr (.inr ⟨rfl, HN1.out, HN2.out, by rw [HQ.out, HR.out]; rfl⟩)⟩, by rw [hb0]; exact HA3.out⟩
set_option maxRecDepth 100000 in
set_option maxHeartbeats 4000000 in
theorem refCheckC_ok (a b : CallV) (va vb : Value) (w : World) (ha : CallAt w va a) (hb : CallAt w vb b) (hda : (a.data.length : Int) ≤ 140737488355200) (hdb : (b.data.length : Int) ≤ 140737488355200) :
  Calls Tryz.prog 10 #[va, vb] w fun e w' => (∃ r n, e = .returned (.tuple #[.bool r, .int .i64 n]) ∧ checkN a b r n) ∧ Below w.heap.size w w' := by
 have HCA := Lib.hid (fun W (h : Below w.heap.size w W) => refCallK_any a va W (ha.below h) hda)
 have HCB := Lib.hid (fun W (h : Below w.heap.size w W) => refCallK_any b vb W (hb.below h) hdb)
 have HU := Lib.hid (fun W (h : Below w.heap.size w W) => refUnlike_ok a b va vb W (ha.below h) (hb.below h))
 clear hda hdb
 obtain ⟨bv1, kv1, dv1, rfl, h1, h2, h3⟩ := ha
 obtain ⟨bv2, kv2, dv2, rfl, h4, h5, h6⟩ := hb
 clear h1 h2 h3 h4 h5 h6
 obtain ⟨q, hq⟩ : ∃ q, sameC a b = q := ⟨_, rfl⟩
 rw [hq] at HU
 obtain ⟨k1, hk1⟩ : ∃ k, a.kind = k := ⟨_, rfl⟩
 obtain ⟨la1, hla1⟩ : ∃ k, a.last = k := ⟨_, rfl⟩
 obtain ⟨o1, ho1⟩ : ∃ k, a.out = k := ⟨_, rfl⟩
 obtain ⟨k2, hk2⟩ : ∃ k, b.kind = k := ⟨_, rfl⟩
 obtain ⟨la2, hla2⟩ : ∃ k, b.last = k := ⟨_, rfl⟩
 obtain ⟨o2, ho2⟩ : ∃ k, b.out = k := ⟨_, rfl⟩
 rw [hk1, hla1, ho1] at HCA HU ⊢
 rw [hk2, hla2, ho2] at HCB HU ⊢
 clear hk1 hla1 ho1 hk2 hla2 ho2
 unfold callC at *
 have HQ := Lib.hid hq
 clear hq
 obtain ⟨b0, hb0⟩ : ∃ b0, w.heap.size = b0 := ⟨_, rfl⟩
 obtain ⟨b1, hb1⟩ : ∃ b1, (w.alloc (.cells #[.int .i64 k1, bv1, kv1, .bool la1, .int .i64 o1, dv1] 25)).heap.size = b1 := ⟨_, rfl⟩
 have hsz : w.heap.size < (w.alloc (.cells #[.int .i64 k1, bv1, kv1, .bool la1, .int .i64 o1, dv1] 25)).heap.size := (Array.getElem?_eq_some_iff.1 (World.alloc_heap_new w (.cells #[.int .i64 k1, bv1, kv1, .bool la1, .int .i64 o1, dv1] 25))).1
 have hbA : Below b0 w ((w.alloc (.cells #[.int .i64 k1, bv1, kv1, .bool la1, .int .i64 o1, dv1] 25)).alloc (.cells #[.int .i64 k2, bv2, kv2, .bool la2, .int .i64 o2, dv2] 25)) := by rw [← hb0]; exact ((Below.refl _ _).alloc (Nat.le_refl _) _).alloc (Nat.le_of_lt hsz) _
 have r0 : ((w.alloc (.cells #[.int .i64 k1, bv1, kv1, .bool la1, .int .i64 o1, dv1] 25)).alloc (.cells #[.int .i64 k2, bv2, kv2, .bool la2, .int .i64 o2, dv2] 25)).heap[b0]? = some (.cells #[.int .i64 k1, bv1, kv1, .bool la1, .int .i64 o1, dv1] 25 (0, 0)) := by
  rw [← hb0]; exact (Below.heap_alloc _ _ _ hsz).trans (World.alloc_heap_new w _)
 have r1 : ((w.alloc (.cells #[.int .i64 k1, bv1, kv1, .bool la1, .int .i64 o1, dv1] 25)).alloc (.cells #[.int .i64 k2, bv2, kv2, .bool la2, .int .i64 o2, dv2] 25)).heap[b1]? = some (.cells #[.int .i64 k2, bv2, kv2, .bool la2, .int .i64 o2, dv2] 25 (0, 0)) := by
  rw [← hb1]; exact World.alloc_heap_new (w.alloc _) _
 have hb01 : b0 < b1 := by rw [← hb0, ← hb1]; exact hsz
 go_enter Tryz.func10, Tryz.ntmps10
 go_upto_region 1 with (fail)
 generalize ((w.alloc (.cells #[.int .i64 k1, bv1, kv1, .bool la1, .int .i64 o1, dv1] 25)).alloc (.cells #[.int .i64 k2, bv2, kv2, .bool la2, .int .i64 o2, dv2] 25)) = W at *
 have HA := Lib.hid hbA
 have R0 := Lib.hid r0
 have R1 := Lib.hid r1
 clear hbA r0 r1 hb1 hsz
 go_wp2_with (first | ((with_reducible show wpList _ _ _ (Oper.mk _ (Op.load 25 (Operand.tmp 2)) _ _ _ _ :: _) _ _); refine wpList_load_row rfl 25 _ rfl b0 rfl _ _ _ _ R0.out Tryz.underlying25 rfl (by kernel_rfl) ?_) | ((with_reducible show wpList _ _ _ (Oper.mk _ (Op.load 25 (Operand.tmp 3)) _ _ _ _ :: _) _ _); refine wpList_load_row rfl 25 _ rfl b1 rfl _ _ _ _ R1.out Tryz.underlying25 rfl (by kernel_rfl) ?_))
 refine (HCA.out W (hb0 ▸ HA.out)).mono ?_; rintro e w1 ⟨⟨x, n1, rfl, hn1, hx1, hx2⟩, hw⟩
 have R0a := Lib.hid (rowStay R0.out hw)
 have R1a := Lib.hid (rowStay R1.out hw)
 have HA1 := Lib.hid (show Below b0 w w1 from HA.out.trans (hw.mono (by have := HA.out.size; omega)))
 have HN1 := Lib.hid hn1
 have HX2 := Lib.hid hx2
 clear hw hn1 hx1 hx2 R0 R1 HA HCA
 by_cases hn : n1 = 0
 case neg =>
  have hqn : (n1 != 0) = true := by rw [bne_iff_ne]; exact hn
  have HN := Lib.hid hn
  clear hn
  go_wp2_with fail
  go_ret2
  exact ⟨⟨false, n1, rfl, .inl ⟨HN.out, HN1.out, rfl⟩⟩, by rw [hb0]; exact HA1.out⟩
 subst hn
 go_wp2_with (first | ((with_reducible show wpList _ _ _ (Oper.mk _ (Op.load 25 (Operand.tmp 2)) _ _ _ _ :: _) _ _); refine wpList_load_row rfl 25 _ rfl b0 rfl _ _ _ _ R0a.out Tryz.underlying25 rfl (by kernel_rfl) ?_) | ((with_reducible show wpList _ _ _ (Oper.mk _ (Op.load 25 (Operand.tmp 3)) _ _ _ _ :: _) _ _); refine wpList_load_row rfl 25 _ rfl b1 rfl _ _ _ _ R1a.out Tryz.underlying25 rfl (by kernel_rfl) ?_))
 refine (HCB.out w1 (hb0 ▸ HA1.out)).mono ?_; rintro e w2 ⟨⟨y, n2, rfl, hn2, hy1, hy2⟩, hw⟩
 have R0b := Lib.hid (rowStay R0a.out hw)
 have R1b := Lib.hid (rowStay R1a.out hw)
 have HA2 := Lib.hid (show Below b0 w w2 from HA1.out.trans (hw.mono (by have := HA1.out.size; omega)))
 have HX := Lib.hid ((HX2.out (by trivial)).below hw |>.hold (outK_bounds a))
 have HN2 := Lib.hid hn2
 have HY2 := Lib.hid (fun h => (hy2 h).hold (outK_bounds b))
 clear hw hn2 hy1 hy2 R0a R1a HA1 HCB HX2
 by_cases hn : n2 = 0
 case neg =>
  have hqn : (n2 != 0) = true := by rw [bne_iff_ne]; exact hn
  have HN := Lib.hid hn
  clear hn
  go_wp2_with fail
  go_ret2
  exact ⟨⟨false, n2, rfl, .inr (.inl ⟨HN.out, HN1.out, HN2.out, rfl⟩)⟩, by rw [hb0]; exact HA2.out⟩
 subst hn
 have HY := Lib.hid (HY2.out rfl)
 clear HY2
 go_wp2_with (first | ((with_reducible show wpList _ _ _ (Oper.mk _ (Op.load 25 (Operand.tmp 2)) _ _ _ _ :: _) _ _); refine wpList_load_row rfl 25 _ rfl b0 rfl _ _ _ _ R0b.out Tryz.underlying25 rfl (by kernel_rfl) ?_) | ((with_reducible show wpList _ _ _ (Oper.mk _ (Op.load 25 (Operand.tmp 3)) _ _ _ _ :: _) _ _); refine wpList_load_row rfl 25 _ rfl b1 rfl _ _ _ _ R1b.out Tryz.underlying25 rfl (by kernel_rfl) ?_))
 refine (HU.out w2 (hb0 ▸ HA2.out)).mono ?_; rintro e w3 ⟨rfl, hw⟩
 have HA3 := Lib.hid (show Below b0 w w3 from HA2.out.trans (hw.mono (by have := HA2.out.size; omega)))
 have HX3 := Lib.hid (HX.out.below hw)
 have HY3 := Lib.hid (HY.out.below hw)
 clear hw HX HY HA2 R0b R1b HU
 cases q
 case true =>
  go_wp2_with fail
  go_ret2
  exact ⟨⟨false, 0, rfl, .inr (.inr ⟨rfl, HN1.out, HN2.out, by rw [HQ.out]; rfl⟩)⟩, by rw [hb0]; exact HA3.out⟩
 go_wp2_with fail
 refine (refSame_ok (outK a) (outK b) x y w3 HX3.out HY3.out).mono ?_; rintro e w4 ⟨rfl, hw⟩
 obtain ⟨m, rfl⟩ := hw
 obtain ⟨r, hr⟩ : ∃ r, decide (outK a = outK b) = r := ⟨_, rfl⟩
 rw [hr]
 have HR := Lib.hid hr
 clear hr
 go_wp2_with fail
 go_ret2
 exact ⟨⟨r, 0, rfl, .inr (.inr ⟨rfl, HN1.out, HN2.out, by rw [HQ.out, HR.out]; rfl⟩)⟩, by rw [hb0]; exact BD HA3.out⟩
end Go.Proofs.YtjogmckaakkomaaGreat
