/- A node begins: nothing was written but its key's block. No condition. -/
import Derived.Test.YtjogmckaakkomaaGreatK34
namespace Go.Proofs.YtjogmckaakkomaaGreat
open Go.ChangeShapes Go.WideShapes Go.ChangeAt Go.RowKit Go.Joins Go.Shelf Go.Maps
attribute [local go_sem] Oper.semAt_some

/-- The cells of a node. -/
def nodeC (kind dg : Int) (bv kv : Value) (last : Bool) (wr : Int) (e : Value) : Array Value := #[.int .i64 kind, .int .i64 dg, bv, kv, .bool last, .int .u64 wr, e]
def phT (big : Bool) : TypeId := cond big 153 163
theorem Hold.of_len {w : World} {a : Option Addr} {n c : Nat} {zs : List Int} (h : Hold w (.slice a n c) zs) : n = zs.length := by
 obtain ⟨a', c', e, -⟩ := h.slice
 simp only [Value.slice.injEq] at e
 exact e.2.1
theorem hold_own {w : World} {v : Value} {zs : List Int} {b : Nat} (h : Hold w v zs) (hne : zs ≠ []) (hb : v.ownBlock = some b) : b < w.heap.size := by
 rcases h.2 with ⟨h2, -⟩ | ⟨ad, cap, rfl, -, -, h3⟩
 ·exact absurd h2 hne
 ·obtain ⟨b', off, rfl, h3, -⟩ := h3.resolve_left hne
  simp only [Value.ownBlock, Option.some.injEq] at hb
  subst hb; exact h3
theorem node_e {W : World} {np : Nat} {kind dg : Int} {bv kv : Value} {la : Bool} {wr : Int} {e v : Value} {T : TypeId} (h : W.heap[np]? = some (.cells (nodeC kind dg bv kv la wr e) T (0, 0))) : (W.setCell ⟨np, 6, none⟩ v).heap[np]? = some (.cells (nodeC kind dg bv kv la wr v) T (0, 0)) := heap_setCell_same W np 6 _ _ v h
theorem node_last {W : World} {np : Nat} {kind dg : Int} {bv kv : Value} {la b : Bool} {wr : Int} {e : Value} {T : TypeId} (h : W.heap[np]? = some (.cells (nodeC kind dg bv kv la wr e) T (0, 0))) : (W.setCell ⟨np, 4, none⟩ (.bool b)).heap[np]? = some (.cells (nodeC kind dg bv kv b wr e) T (0, 0)) := heap_setCell_same W np 4 _ _ _ h
theorem node_wr {W : World} {np : Nat} {kind dg : Int} {bv kv : Value} {la : Bool} {wr x : Int} {e : Value} {T : TypeId} (h : W.heap[np]? = some (.cells (nodeC kind dg bv kv la wr e) T (0, 0))) : (W.setCell ⟨np, 5, none⟩ (.int .u64 x)).heap[np]? = some (.cells (nodeC kind dg bv kv la x e) T (0, 0)) := heap_setCell_same W np 5 _ _ _ h
theorem eng_nil {big : Bool} {W : World} {p : Nat} {h0 : List Int} (h : W.heap[p]? = some (.cells (cond big engB engS h0 0 (.slice none 0 0)) (cond big 159 167) (0, 0))) : EngAt big W p (.slice none 0 0) h0 [] := by
 have e : heldZ (bB big) [] = [] := by simp [heldZ]
 refine ⟨?_, by rw [e]; exact World.ownsRow_nil _ _ _ _⟩
 simpa [nbk_zero, stZ] using h
theorem eng_below {big : Bool} {W W' : World} {p : Nat} {hv : Value} {h0 msg : List Int} (h : EngAt big W p hv h0 msg) (hb : Below W.heap.size W W') : EngAt big W' p hv h0 msg :=
 ⟨rowStay h.1 hb, ownsRow_same' h.2 (fun g _ hg => hb.block g hg)⟩
theorem own_base {W : World} {B n b : Nat} {e : TypeId} {v : Value} {xs : List Value} (h : W.ownsRow B e 1 v n xs) (hb : v.ownBlock = some b) : B ≤ b := by
 rcases h.2 with ⟨rfl, -⟩ | ⟨g, cap, cur, rfl, h1, -⟩
 ·cases hb
 ·simp only [Value.ownBlock, Option.some.injEq] at hb; omega
theorem upon_method {P : Program} {o : Oper} {a : Act} {K : Act → World → Prop} {Q : Exit → Act → World → Prop} {n : Nat} {T : TypeId} {x : Value} {name : String} {W : World} {f : FuncId} {g : FuncId × Value → World → Result Next} (hm : (method n T x name).run P W = .ok (f, x) W) (h : Oper.upon P o a K Q (g (f, x) W)) : Oper.upon P o a K Q (((method n T x name).run P W).andThen g) := by
 rw [hm]; exact h
set_option maxRecDepth 100000 in
set_option maxHeartbeats 4000000 in
theorem begin_true (bs kz : List Int) (np : Nat) (dg wr : Int) (la : Bool) (bv kv e0 : Value) (w : World) (hrow : w.heap[np]? = some (.cells (nodeC 1 dg bv kv la wr e0) 84 (0, 0))) (hB : Hold w bv bs) (hK : Hold w kv kz) (hl : bs.length = 64) (hkl : kz.length ≤ 64) (hkn : kv.ownBlock ≠ some np) :
  Calls Tryz.prog 61 #[.pointer (some ⟨np, 0, none⟩)] w fun e w' => e = .returned (.tuple #[]) ∧ (∃ p hv, w.heap.size ≤ p ∧ w'.heap[np]? = some (.cells (nodeC 1 dg bv kv false 0 (.iface 153 (.pointer (some ⟨p, 0, none⟩)))) 84 (0, 0)) ∧ EngAt true w' p hv (h0Z true bs) (keyZ 128 kz) ∧ (∀ g, hv.ownBlock = some g → w.heap.size ≤ g)) ∧ Spare (fun k => k ≠ np) w w' := by
 have hnp : np < w.heap.size := (Array.getElem?_eq_some_iff.1 hrow).1
 obtain ⟨kn, kc, ka, rfl⟩ : ∃ n c a, kv = .slice a n c := by obtain ⟨a, c, e, -⟩ := hK.slice; exact ⟨_, _, _, e⟩
 obtain rfl : kn = kz.length := hK.of_len
 have HROW := Lib.hid hrow
 have HB := Lib.hid hB
 have HK := Lib.hid hK
 have HL := Lib.hid hl
 have HKN := Lib.hid hkn
 clear hrow hB hK hl hkn
 go_enter Tryz.func61, Tryz.ntmps61
 go_upto_region 0 with (fail)
 refine wp_region_below (n := 10) (w0 := w) (B := w.heap.size) [2, 3, 4, 5, 6, 7, 8, 9, 10, 11] [(vl (.pointer (some ⟨np, 0, none⟩))), (vl (.pointer (some ⟨np, 0, none⟩))), (vl (.pointer (some ⟨np, 0, none⟩))), (vl (.pointer (some ⟨np, 0, none⟩))), (vl (.int .i64 1)), (vl (.pointer (some ⟨np, 0, none⟩))), (vl (.pointer (some ⟨np, 0, none⟩))), (vl (.pointer (some ⟨np, 2, none⟩))), (vl bv), (fun u W => ∃ p, u = .iface 153 (.pointer (some ⟨p, 0, none⟩)) ∧ w.heap.size ≤ p ∧ W.heap[p]? = some (.cells (engB (h0Z true bs) 0 (.slice none 0 0)) 159 (0, 0)))] (by dsimp only [List.take]) (by dsimp only [List.drop]) rfl (by rfl) (by decide) (by kernel_rfl) (by rfl) (by kernel_rfl) (by kernel_rfl) (Below.refl _ _).drew (Nat.le_refl _) ?_ ?_ ?_
 ·exact ⟨kV, kV, kV, kV, kV, kV, kV, kV, kV, (fun _ _ _ h hb => by obtain ⟨p, e, h3, h4⟩ := h; exact ⟨p, e, h3, rowStay h4 hb⟩), trivial⟩
 ·refine eachO_8 ?_ ?_ ?_ ?_ ?_ ?_ ?_ ?_ (eachO_cons ?_ (eachO_cons ?_ (eachO_nil)))
  ·intro A x W hA hW hBW hdep K hK
   have a0 := hA.2 0 (by decide)
   conv at a0 => rhs; whnf
   clear hdep hA
   go_simp
   exact hK _ _ BR rfl
  ·intro A x W hA hW hBW hdep K hK
   have a0 := hA.2 0 (by decide)
   conv at a0 => rhs; whnf
   clear hdep hA
   go_simp
   exact hK _ _ BR rfl
  ·intro A x W hA hW hBW hdep K hK
   have g3 := gv hA hdep 1 3
   clear hdep hA
   go_simp
   exact hK _ _ BR rfl
  ·intro A x W hA hW hBW hdep K hK
   have g4 := gv hA hdep 2 4
   clear hdep hA
   go_simp
   exact hK _ _ BR rfl
  ·intro A x W hA hW hBW hdep K hK
   have g5 := gv hA hdep 3 5
   clear hdep hA
   have g0 := rowStay HROW.out hW
   have c0 : W.cell? ⟨np, 0, none⟩ = some (.int .i64 1) := cell_of_heap g0 0
   go_simp
   exact hK _ _ BR rfl
  ·intro A x W hA hW hBW hdep K hK
   have a0 := hA.2 0 (by decide)
   conv at a0 => rhs; whnf
   clear hdep hA
   go_simp
   exact hK _ _ BR rfl
  ·intro A x W hA hW hBW hdep K hK
   have g7 := gv hA hdep 5 7
   clear hdep hA
   go_simp
   exact hK _ _ BR rfl
  ·intro A x W hA hW hBW hdep K hK
   have g8 := gv hA hdep 6 8
   clear hdep hA
   go_simp
   exact hK _ _ BR rfl
  ·intro A x W hA hW hBW hdep K hK
   have g9 := gv hA hdep 7 9
   clear hdep hA
   have g0 := rowStay HROW.out hW
   have c0 : W.cell? ⟨np, 2, none⟩ = some bv := cell_of_heap g0 2
   go_simp
   exact hK _ _ BR rfl
  ·intro A x W hA hW hBW hdep K hK
   have g6 := gv hA hdep 4 6
   have g10 := gv hA hdep 8 10
   clear hdep hA
   go_simp
   refine (begun_true bs bv _ (HB.out.holds8.mono_below hW (Nat.le_refl _)) HB.out.1 HL.out).mono ?_; rintro e w' ⟨p, rfl, h1, h2, hb⟩; exact hK _ _ hb ⟨p, rfl, Nat.le_trans hBW h1, h2⟩
 intro x W hW hBW hall
 obtain ⟨e2, e3, e4, e5, e6, e7, e8, e9, e10, e11, -⟩ := hall
 change x 2 = (.pointer (some ⟨np, 0, none⟩) : Value) at e2
 change x 3 = (.pointer (some ⟨np, 0, none⟩) : Value) at e3
 change x 4 = (.pointer (some ⟨np, 0, none⟩) : Value) at e4
 change x 5 = (.pointer (some ⟨np, 0, none⟩) : Value) at e5
 change x 6 = (.int .i64 1 : Value) at e6
 change x 7 = (.pointer (some ⟨np, 0, none⟩) : Value) at e7
 change x 8 = (.pointer (some ⟨np, 0, none⟩) : Value) at e8
 change x 9 = (.pointer (some ⟨np, 2, none⟩) : Value) at e9
 change x 10 = (bv : Value) at e10
 change (fun u W => ∃ p, u = .iface 153 (.pointer (some ⟨p, 0, none⟩)) ∧ w.heap.size ≤ p ∧ W.heap[p]? = some (.cells (engB (h0Z true bs) 0 (.slice none 0 0)) 159 (0, 0))) (x 11) W at e11
 obtain ⟨p, e11, hp1, hp2⟩ := e11
 refine thenTail_cons ?_
 simp only [lay, Act.put, List.setIfInBounds_toArray, List.set_cons_zero, List.set_cons_succ, e2, e3, e4, e5, e6, e7, e8, e9, e10, e11]
 clear e2 e3 e4 e5 e6 e7 e8 e9 e10 e11
 have hr1 := rowStay HROW.out hW
 have HP2 := Lib.hid hp2
 have HR1 := Lib.hid hr1
 have HW := Lib.hid hW
 have hnp1 : np < W.heap.size := (Array.getElem?_eq_some_iff.1 hr1).1
 have c6 : W.cell? ⟨np, 6, none⟩ = some e0 := cell_of_heap hr1 6
 have f6 := frozen_of_row W np 6 _ _ hr1
 clear hp2 hr1 hW hBW x
 go_wp2_with fail
 refine thenTail_cons ?_
 go_wp2_with fail
 refine thenTail_cons ?_
 go_wp2_with fail
 refine thenTail_nil ?_
 have hrA := node_e (v := .iface 153 (.pointer (some ⟨p, 0, none⟩))) HR1.out
 have hbA : Spare (fun k => k ≠ np) w (W.setCell ⟨np, 6, none⟩ (.iface 153 (.pointer (some ⟨p, 0, none⟩)))) := (Spare.of_below _ HW.out).trans (Spare.of_but ((But.refl np W).set 6 _)) (fun _ _ h => h)
 have hpA : (W.setCell ⟨np, 6, none⟩ (.iface 153 (.pointer (some ⟨p, 0, none⟩)))).heap[p]? = some (.cells (engB (h0Z true bs) 0 (.slice none 0 0)) 159 (0, 0)) := (heap_setCell_other W _ _ _ (by show p ≠ np; omega)).trans HP2.out
 generalize W.setCell ⟨np, 6, none⟩ (.iface 153 (.pointer (some ⟨p, 0, none⟩))) = WA at *
 clear HW HR1 HP2 c6 f6 hnp1 W
 have c4 : WA.cell? ⟨np, 4, none⟩ = some (.bool la) := cell_of_heap hrA 4
 have f4 := frozen_of_row WA np 4 _ _ hrA
 have hnpA : np < WA.heap.size := (Array.getElem?_eq_some_iff.1 hrA).1
 have HRA := Lib.hid hrA
 have HBA := Lib.hid hbA
 have HPA := Lib.hid hpA
 clear hrA hbA hpA
 go_upto_region 2 with (fail)
 have hrA := node_last (b := false) HRA.out
 have hbA : Spare (fun k => k ≠ np) w (WA.setCell ⟨np, 4, none⟩ (.bool false)) := HBA.out.trans (Spare.of_but ((But.refl np WA).set 4 _)) (fun _ _ h => h)
 have hpA : (WA.setCell ⟨np, 4, none⟩ (.bool false)).heap[p]? = some (.cells (engB (h0Z true bs) 0 (.slice none 0 0)) 159 (0, 0)) := (heap_setCell_other WA _ _ _ (by show p ≠ np; omega)).trans HPA.out
 generalize WA.setCell ⟨np, 4, none⟩ (.bool false) = A1 at *
 clear HBA HRA HPA c4 f4 hnpA WA
 obtain ⟨WA, rfl⟩ : ∃ WA, A1 = WA := ⟨_, rfl⟩
 have HRA := Lib.hid hrA
 have HBA := Lib.hid hbA
 have HPA := Lib.hid hpA
 have hnpA : np < A1.heap.size := (Array.getElem?_eq_some_iff.1 hrA).1
 have c5 : A1.cell? ⟨np, 5, none⟩ = some (.int .u64 wr) := cell_of_heap hrA 5
 have f5 := frozen_of_row A1 np 5 _ _ hrA
 clear hrA hbA hpA
 go_upto_region 3 with (fail)
 have hrA := node_wr (x := 0) HRA.out
 have hbA : Spare (fun k => k ≠ np) w (A1.setCell ⟨np, 5, none⟩ (.int .u64 0)) := HBA.out.trans (Spare.of_but ((But.refl np A1).set 5 _)) (fun _ _ h => h)
 have hpA : (A1.setCell ⟨np, 5, none⟩ (.int .u64 0)).heap[p]? = some (.cells (engB (h0Z true bs) 0 (.slice none 0 0)) 159 (0, 0)) := (heap_setCell_other A1 _ _ _ (by show p ≠ np; omega)).trans HPA.out
 have hs0 : w.heap.size ≤ (A1.setCell ⟨np, 5, none⟩ (.int .u64 0)).heap.size := hbA.size
 generalize A1.setCell ⟨np, 5, none⟩ (.int .u64 0) = WA at *
 clear HBA HRA HPA c5 f5 hnpA A1
 have c3 : WA.cell? ⟨np, 3, none⟩ = some (.slice ka kz.length kc) := cell_of_heap hrA 3
 have hnpA : np < WA.heap.size := (Array.getElem?_eq_some_iff.1 hrA).1
 have hpA2 : p < WA.heap.size := (Array.getElem?_eq_some_iff.1 hpA).1
 have HRA := Lib.hid hrA
 have HBA := Lib.hid hbA
 have HPA := Lib.hid hpA
 clear hrA hbA hpA
 by_cases hk0 : kz.length = 0
 case pos =>
  obtain rfl : kz = [] := List.eq_nil_of_length_eq_zero hk0
  go_wp2
  go_end0
  exact ⟨rfl, ⟨p, .slice none 0 0, hp1, HRA.out, eng_nil HPA.out, fun g h => by cases h⟩, HBA.out⟩
 have hk1 : 0 < kz.length := by omega
 have hk2 : (kz.length : Int) ≤ 64 := by omega
 go_upto_region 4 with (fail)
 have hKA : Hold WA (.slice ka kz.length kc) kz := HK.out.keep HBA.out.size fun b hb hlt => HBA.out.block b hlt (fun e => HKN.out (by rw [hb, e]))
 have HKA := Lib.hid hKA
 have hpz := padZ_length (n := 128) (zs := kz) (by omega)
 have HPZ := Lib.hid hpz
 have HK0 := Lib.hid hk0
 clear hKA hpz hk0 c3
 have hkp : (Value.slice ka kz.length kc).ownBlock ≠ some p := fun e => by have := hold_own HK.out (fun e => by rw [e] at hk1; simp at hk1) e; omega
 refine wp_region_one (fun f W => W.heap[np]? = some (.cells (nodeC 1 dg bv (.slice ka kz.length kc) false 0 (.iface 153 (.pointer (some ⟨p, 0, none⟩)))) 84 (0, 0)) ∧ (f = false → Below WA.heap.size WA W) ∧ (WA.heap.size ≤ W.heap.size ∧ (∀ b, b < WA.heap.size → b ≠ p → W.heap[b]? = WA.heap[b]?)) ∧ (f = true → Spare (fun k => k ≠ p) WA W ∧ ∃ hv, EngAt true W p hv (h0Z true bs) (padZ 128 kz) ∧ ∀ g, hv.ownBlock = some g → WA.heap.size ≤ g)) 16 [26, 27, 28, 29, 30, 31, 32, 33, 34, 35, 36, 37, 38, 39, 40, 41, 42] [.own (vl (.pointer (some ⟨np, 0, none⟩))), .own (vl (.pointer (some ⟨np, 0, none⟩))), .own (vl (.pointer (some ⟨np, 6, none⟩))), .own (vl (.iface 153 (.pointer (some ⟨p, 0, none⟩)))), .own (vl (.pointer (some ⟨np, 0, none⟩))), .own (vl (.pointer (some ⟨np, 0, none⟩))), .own (vl (.pointer (some ⟨np, 3, none⟩))), .own (vl (.slice ka kz.length kc)), .own (vl (.pointer (some ⟨np, 0, none⟩))), .own (vl (.pointer (some ⟨np, 0, none⟩))), .own (vl (.pointer (some ⟨np, 0, none⟩))), .own (vl (.int .i64 1)), .own (vl (.int .i64 128)), .own (fun u W => W.ownsRow WA.heap.size 5 1 u 128 ((padZ 128 kz).map encB)), .own (vl (.iface 153 (.pointer (some ⟨p, 0, none⟩)))), .own (vl (.iface 153 (.pointer (some ⟨p, 0, none⟩)))), .own (fun _ _ => True)] rfl (by rfl) (by decide) (by kernel_rfl) (by rfl) (by kernel_rfl) (by decide) (by kernel_rfl) ⟨HRA.out, fun _ => (Below.refl _ _).drew, ⟨Nat.le_refl _, fun _ _ _ => rfl⟩, fun h => (by cases h)⟩ (fun f W W' h hb => ⟨rowStay h.1 hb, fun e => (h.2.1 e).trans (hb.mono (h.2.1 e).size), ⟨Nat.le_trans h.2.2.1.1 hb.size, fun b h1 h2 => (hb.block b (Nat.lt_of_lt_of_le h1 h.2.2.1.1)).trans (h.2.2.1.2 b h1 h2)⟩, fun e => by obtain ⟨h1, hv, h2, h3⟩ := h.2.2.2 e; exact ⟨h1.trans (Spare.of_below _ hb) (fun _ _ h => h), hv, eng_below h2 hb, h3⟩⟩) ?_ ?_ ?_
 ·exact ⟨kW, kW, kW, kW, kW, kW, kW, kW, kW, kW, kW, kW, kW, (fun _ _ hb _ h => ownsRow_same' h (fun g _ hg => hb.block g hg)), kW, kW, kW, trivial⟩
 ·refine eachO_cons (.inl ⟨rfl, ?_⟩) (eachO_cons (.inl ⟨rfl, ?_⟩) (eachO_cons (.inl ⟨rfl, ?_⟩) (eachO_cons (.inl ⟨rfl, ?_⟩) (eachO_cons (.inl ⟨rfl, ?_⟩) (eachO_cons (.inl ⟨rfl, ?_⟩) (eachO_cons (.inl ⟨rfl, ?_⟩) (eachO_cons (.inl ⟨rfl, ?_⟩) (eachO_cons (.inl ⟨rfl, ?_⟩) (eachO_cons (.inl ⟨rfl, ?_⟩) (eachO_cons (.inl ⟨rfl, ?_⟩) (eachO_cons (.inl ⟨rfl, ?_⟩) (eachO_cons (.inl ⟨rfl, ?_⟩) (eachO_cons (.inl ⟨rfl, ?_⟩) (eachO_cons (.inl ⟨rfl, ?_⟩) (eachO_cons (.inl ⟨rfl, ?_⟩) (eachO_cons (.inr ⟨rfl, ?_⟩) (eachO_nil)))))))))))))))))
  ·intro A x W f hA hR hf hdep K hK
   have a0 := hA.2 0 (by decide)
   conv at a0 => rhs; whnf
   clear hdep hA
   go_simp
   exact hK _ _ BR rfl
  ·intro A x W f hA hR hf hdep K hK
   have g26 := gw hA hdep 0 26
   clear hdep hA
   go_simp
   exact hK _ _ BR rfl
  ·intro A x W f hA hR hf hdep K hK
   have g27 := gw hA hdep 1 27
   clear hdep hA
   go_simp
   exact hK _ _ BR rfl
  ·intro A x W f hA hR hf hdep K hK
   have g28 := gw hA hdep 2 28
   clear hdep hA
   have g0 := hR.1
   have c0 : W.cell? ⟨np, 6, none⟩ = some (.iface 153 (.pointer (some ⟨p, 0, none⟩))) := cell_of_heap g0 6
   go_simp
   exact hK _ _ BR rfl
  ·intro A x W f hA hR hf hdep K hK
   have a0 := hA.2 0 (by decide)
   conv at a0 => rhs; whnf
   clear hdep hA
   go_simp
   exact hK _ _ BR rfl
  ·intro A x W f hA hR hf hdep K hK
   have g30 := gw hA hdep 4 30
   clear hdep hA
   go_simp
   exact hK _ _ BR rfl
  ·intro A x W f hA hR hf hdep K hK
   have g31 := gw hA hdep 5 31
   clear hdep hA
   go_simp
   exact hK _ _ BR rfl
  ·intro A x W f hA hR hf hdep K hK
   have g32 := gw hA hdep 6 32
   clear hdep hA
   have g0 := hR.1
   have c0 : W.cell? ⟨np, 3, none⟩ = some (.slice ka kz.length kc) := cell_of_heap g0 3
   go_simp
   exact hK _ _ BR rfl
  ·intro A x W f hA hR hf hdep K hK
   have a0 := hA.2 0 (by decide)
   conv at a0 => rhs; whnf
   clear hdep hA
   go_simp
   exact hK _ _ BR rfl
  ·intro A x W f hA hR hf hdep K hK
   have g34 := gw hA hdep 8 34
   clear hdep hA
   go_simp
   exact hK _ _ BR rfl
  ·intro A x W f hA hR hf hdep K hK
   have g35 := gw hA hdep 9 35
   clear hdep hA
   go_simp
   exact hK _ _ BR rfl
  ·intro A x W f hA hR hf hdep K hK
   have g36 := gw hA hdep 10 36
   clear hdep hA
   have g0 := hR.1
   have c0 : W.cell? ⟨np, 0, none⟩ = some (.int .i64 1) := cell_of_heap g0 0
   go_simp
   exact hK _ _ BR rfl
  ·intro A x W f hA hR hf hdep K hK
   have g37 := gw hA hdep 11 37
   clear hdep hA
   go_simp
   refine (blockOf_ok true _).mono ?_; rintro e w' ⟨rfl, hw⟩; exact hK _ _ (by rw [hw]; exact Below.refl _ _) rfl
  ·intro A x W f hA hR hf hdep K hK
   have g33 := gw hA hdep 7 33
   have g38 := gw hA hdep 12 38
   clear hdep hA
   go_simp
   have hKW : Hold W (.slice ka kz.length kc) kz := HKA.out.keep hR.2.2.1.1 (fun b hb hlt => hR.2.2.1.2 b hlt (fun e => hkp (by rw [hb, e])))
   refine (padded_ok kz _ 128 _ hKW (by omega) (by decide)).mono ?_; rintro e w' ⟨u, rfl, ho, hb⟩; exact hK _ _ hb (ownsRow_le ho hR.2.2.1.1)
  ·intro A x W f hA hR hf hdep K hK
   have g29 := gw hA hdep 3 29
   clear hdep hA
   go_simp
   exact hK _ _ BR rfl
  ·intro A x W f hA hR hf hdep K hK
   have g29 := gw hA hdep 3 29
   have g40 := gw hA hdep 14 40
   clear hdep hA
   go_simp
   exact hK _ _ BR rfl
  ·intro A x W hA hR hdep K hK
   have g41 := gw hA hdep 15 41
   have g39 : (fun u W => W.ownsRow WA.heap.size 5 1 u 128 ((padZ 128 kz).map encB)) (x 39) W := hdep ⟨13, .data⟩ (by simp) rfl
   have a39 : A.tmps.getD 39 undef = x 39 := hA.1 39 (by decide)
   clear hdep hA
   have hB := hR.2.1 rfl
   go_simp
   refine upon_method (f := 175) (by kernel_rfl) ?_
   go_simp
   have hbz := padZ_bounds (n := 128) HK.out.1
   have hx39 : Hold W (x 39) (padZ 128 kz) := hold_of_own g39 hbz
   refine (write_true (h0Z true bs) [] (padZ 128 kz) (h0Z_words true bs) (fun _ h => by cases h) p (.slice none 0 0) (x 39) W (eng_nil (rowStay HPA.out hB)) hx39 (fun _ b hb => ⟨fun e => by have := own_base g39 hb; omega, fun e => by cases e⟩) (by rw [HPZ.out]; simp)).mono ?_
   rintro e w' ⟨rfl, ⟨hv', hE', hO'⟩, hS'⟩
   refine hK _ _ (fun h => by cases h) ⟨(hS'.block np (Array.getElem?_eq_some_iff.1 hR.1).1 ⟨by omega, fun e => by cases e⟩).trans hR.1, fun h => (by cases h), ⟨Nat.le_trans hR.2.2.1.1 hS'.size, fun b h1 h2 => (hS'.block b (Nat.lt_of_lt_of_le h1 hR.2.2.1.1) ⟨h2, fun e => by cases e⟩).trans (hR.2.2.1.2 b h1 h2)⟩, fun _ => ⟨(Spare.of_below _ hB).trans hS' (fun b _ h => ⟨h, fun e => by cases e⟩), hv', hE', fun g hg => ?_⟩⟩ ⟨.inr (fun _ h => h), .inr (fun _ h => h), .inr (fun _ h => h), .inr (fun _ h => h), .inr (fun _ h => h), .inr (fun _ h => h), .inr (fun _ h => h), .inr (fun _ h => h), .inr (fun _ h => h), .inr (fun _ h => h), .inr (fun _ h => h), .inr (fun _ h => h), .inr (fun _ h => h), .inr (fun u h => ownsRow_same' h (fun g h1 h2 => hS'.block g h2 ⟨by omega, fun e => by cases e⟩)), .inr (fun _ h => h), .inr (fun _ h => h), .inl rfl, trivial⟩ trivial
   rcases hO' with hO' | hO'
   ·rw [hO'] at hg; cases hg
   ·have := hO' g hg; have := hB.size; omega
 intro x W hR hall
 obtain ⟨e26, e27, e28, e29, e30, e31, e32, e33, e34, e35, e36, e37, e38, e39, e40, e41, e42, -⟩ := hall
 change x 26 = (.pointer (some ⟨np, 0, none⟩) : Value) at e26
 change x 27 = (.pointer (some ⟨np, 0, none⟩) : Value) at e27
 change x 28 = (.pointer (some ⟨np, 6, none⟩) : Value) at e28
 change x 29 = (.iface 153 (.pointer (some ⟨p, 0, none⟩)) : Value) at e29
 change x 30 = (.pointer (some ⟨np, 0, none⟩) : Value) at e30
 change x 31 = (.pointer (some ⟨np, 0, none⟩) : Value) at e31
 change x 32 = (.pointer (some ⟨np, 3, none⟩) : Value) at e32
 change x 33 = (.slice ka kz.length kc : Value) at e33
 change x 34 = (.pointer (some ⟨np, 0, none⟩) : Value) at e34
 change x 35 = (.pointer (some ⟨np, 0, none⟩) : Value) at e35
 change x 36 = (.pointer (some ⟨np, 0, none⟩) : Value) at e36
 change x 37 = (.int .i64 1 : Value) at e37
 change x 38 = (.int .i64 128 : Value) at e38
 change (fun u W => W.ownsRow WA.heap.size 5 1 u 128 ((padZ 128 kz).map encB)) (x 39) W at e39
 change x 40 = (.iface 153 (.pointer (some ⟨p, 0, none⟩)) : Value) at e40
 change x 41 = (.iface 153 (.pointer (some ⟨p, 0, none⟩)) : Value) at e41
 change ((fun _ _ => True)) (x 42) W at e42
 simp only [lay, Act.put, List.setIfInBounds_toArray, List.set_cons_zero, List.set_cons_succ, e26, e27, e28, e29, e30, e31, e32, e33, e34, e35, e36, e37, e38, e40, e41]
 clear e26 e27 e28 e29 e30 e31 e32 e33 e34 e35 e36 e37 e38 e40 e41
 obtain ⟨hr9, -, -, h9⟩ := hR
 obtain ⟨hs9, hv9, hE9, ho9⟩ := h9 rfl
 have H9 := Lib.hid (show (∃ p hv, w.heap.size ≤ p ∧ W.heap[np]? = some (.cells (nodeC 1 dg bv (.slice ka kz.length kc) false 0 (.iface 153 (.pointer (some ⟨p, 0, none⟩)))) 84 (0, 0)) ∧ EngAt true W p hv (h0Z true bs) (keyZ 128 kz) ∧ (∀ g, hv.ownBlock = some g → w.heap.size ≤ g)) ∧ Spare (fun k => k ≠ np) w W from ⟨⟨p, hv9, hp1, hr9, by unfold keyZ; rw [if_neg HK0.out]; exact hE9, fun g hg => Nat.le_trans hs0 (ho9 g hg)⟩, HBA.out.trans hs9 (fun b hb _ => by omega)⟩)
 clear hr9 hs9 hE9 ho9 h9 e39
 go_wp2
 go_end0
 exact ⟨rfl, H9.out⟩
set_option maxRecDepth 100000 in
set_option maxHeartbeats 4000000 in
theorem begin_false (bs kz : List Int) (np : Nat) (dg wr : Int) (la : Bool) (bv kv e0 : Value) (w : World) (hrow : w.heap[np]? = some (.cells (nodeC 2 dg bv kv la wr e0) 84 (0, 0))) (hB : Hold w bv bs) (hK : Hold w kv kz) (hl : bs.length = 32) (hkl : kz.length ≤ 32) (hkn : kv.ownBlock ≠ some np) :
  Calls Tryz.prog 61 #[.pointer (some ⟨np, 0, none⟩)] w fun e w' => e = .returned (.tuple #[]) ∧ (∃ p hv, w.heap.size ≤ p ∧ w'.heap[np]? = some (.cells (nodeC 2 dg bv kv false 0 (.iface 163 (.pointer (some ⟨p, 0, none⟩)))) 84 (0, 0)) ∧ EngAt false w' p hv (h0Z false bs) (keyZ 64 kz) ∧ (∀ g, hv.ownBlock = some g → w.heap.size ≤ g)) ∧ Spare (fun k => k ≠ np) w w' := by
 have hnp : np < w.heap.size := (Array.getElem?_eq_some_iff.1 hrow).1
 obtain ⟨kn, kc, ka, rfl⟩ : ∃ n c a, kv = .slice a n c := by obtain ⟨a, c, e, -⟩ := hK.slice; exact ⟨_, _, _, e⟩
 obtain rfl : kn = kz.length := hK.of_len
 have HROW := Lib.hid hrow
 have HB := Lib.hid hB
 have HK := Lib.hid hK
 have HL := Lib.hid hl
 have HKN := Lib.hid hkn
 clear hrow hB hK hl hkn
 go_enter Tryz.func61, Tryz.ntmps61
 go_upto_region 0 with (fail)
 refine wp_region_below (n := 10) (w0 := w) (B := w.heap.size) [2, 3, 4, 5, 6, 7, 8, 9, 10, 11] [(vl (.pointer (some ⟨np, 0, none⟩))), (vl (.pointer (some ⟨np, 0, none⟩))), (vl (.pointer (some ⟨np, 0, none⟩))), (vl (.pointer (some ⟨np, 0, none⟩))), (vl (.int .i64 2)), (vl (.pointer (some ⟨np, 0, none⟩))), (vl (.pointer (some ⟨np, 0, none⟩))), (vl (.pointer (some ⟨np, 2, none⟩))), (vl bv), (fun u W => ∃ p, u = .iface 163 (.pointer (some ⟨p, 0, none⟩)) ∧ w.heap.size ≤ p ∧ W.heap[p]? = some (.cells (engS (h0Z false bs) 0 (.slice none 0 0)) 167 (0, 0)))] (by dsimp only [List.take]) (by dsimp only [List.drop]) rfl (by rfl) (by decide) (by kernel_rfl) (by rfl) (by kernel_rfl) (by kernel_rfl) (Below.refl _ _).drew (Nat.le_refl _) ?_ ?_ ?_
 ·exact ⟨kV, kV, kV, kV, kV, kV, kV, kV, kV, (fun _ _ _ h hb => by obtain ⟨p, e, h3, h4⟩ := h; exact ⟨p, e, h3, rowStay h4 hb⟩), trivial⟩
 ·refine eachO_8 ?_ ?_ ?_ ?_ ?_ ?_ ?_ ?_ (eachO_cons ?_ (eachO_cons ?_ (eachO_nil)))
  ·intro A x W hA hW hBW hdep K hK
   have a0 := hA.2 0 (by decide)
   conv at a0 => rhs; whnf
   clear hdep hA
   go_simp
   exact hK _ _ BR rfl
  ·intro A x W hA hW hBW hdep K hK
   have a0 := hA.2 0 (by decide)
   conv at a0 => rhs; whnf
   clear hdep hA
   go_simp
   exact hK _ _ BR rfl
  ·intro A x W hA hW hBW hdep K hK
   have g3 := gv hA hdep 1 3
   clear hdep hA
   go_simp
   exact hK _ _ BR rfl
  ·intro A x W hA hW hBW hdep K hK
   have g4 := gv hA hdep 2 4
   clear hdep hA
   go_simp
   exact hK _ _ BR rfl
  ·intro A x W hA hW hBW hdep K hK
   have g5 := gv hA hdep 3 5
   clear hdep hA
   have g0 := rowStay HROW.out hW
   have c0 : W.cell? ⟨np, 0, none⟩ = some (.int .i64 2) := cell_of_heap g0 0
   go_simp
   exact hK _ _ BR rfl
  ·intro A x W hA hW hBW hdep K hK
   have a0 := hA.2 0 (by decide)
   conv at a0 => rhs; whnf
   clear hdep hA
   go_simp
   exact hK _ _ BR rfl
  ·intro A x W hA hW hBW hdep K hK
   have g7 := gv hA hdep 5 7
   clear hdep hA
   go_simp
   exact hK _ _ BR rfl
  ·intro A x W hA hW hBW hdep K hK
   have g8 := gv hA hdep 6 8
   clear hdep hA
   go_simp
   exact hK _ _ BR rfl
  ·intro A x W hA hW hBW hdep K hK
   have g9 := gv hA hdep 7 9
   clear hdep hA
   have g0 := rowStay HROW.out hW
   have c0 : W.cell? ⟨np, 2, none⟩ = some bv := cell_of_heap g0 2
   go_simp
   exact hK _ _ BR rfl
  ·intro A x W hA hW hBW hdep K hK
   have g6 := gv hA hdep 4 6
   have g10 := gv hA hdep 8 10
   clear hdep hA
   go_simp
   refine (begun_false bs bv _ (HB.out.holds8.mono_below hW (Nat.le_refl _)) HB.out.1 HL.out).mono ?_; rintro e w' ⟨p, rfl, h1, h2, hb⟩; exact hK _ _ hb ⟨p, rfl, Nat.le_trans hBW h1, h2⟩
 intro x W hW hBW hall
 obtain ⟨e2, e3, e4, e5, e6, e7, e8, e9, e10, e11, -⟩ := hall
 change x 2 = (.pointer (some ⟨np, 0, none⟩) : Value) at e2
 change x 3 = (.pointer (some ⟨np, 0, none⟩) : Value) at e3
 change x 4 = (.pointer (some ⟨np, 0, none⟩) : Value) at e4
 change x 5 = (.pointer (some ⟨np, 0, none⟩) : Value) at e5
 change x 6 = (.int .i64 2 : Value) at e6
 change x 7 = (.pointer (some ⟨np, 0, none⟩) : Value) at e7
 change x 8 = (.pointer (some ⟨np, 0, none⟩) : Value) at e8
 change x 9 = (.pointer (some ⟨np, 2, none⟩) : Value) at e9
 change x 10 = (bv : Value) at e10
 change (fun u W => ∃ p, u = .iface 163 (.pointer (some ⟨p, 0, none⟩)) ∧ w.heap.size ≤ p ∧ W.heap[p]? = some (.cells (engS (h0Z false bs) 0 (.slice none 0 0)) 167 (0, 0))) (x 11) W at e11
 obtain ⟨p, e11, hp1, hp2⟩ := e11
 refine thenTail_cons ?_
 simp only [lay, Act.put, List.setIfInBounds_toArray, List.set_cons_zero, List.set_cons_succ, e2, e3, e4, e5, e6, e7, e8, e9, e10, e11]
 clear e2 e3 e4 e5 e6 e7 e8 e9 e10 e11
 have hr1 := rowStay HROW.out hW
 have HP2 := Lib.hid hp2
 have HR1 := Lib.hid hr1
 have HW := Lib.hid hW
 have hnp1 : np < W.heap.size := (Array.getElem?_eq_some_iff.1 hr1).1
 have c6 : W.cell? ⟨np, 6, none⟩ = some e0 := cell_of_heap hr1 6
 have f6 := frozen_of_row W np 6 _ _ hr1
 clear hp2 hr1 hW hBW x
 go_wp2_with fail
 refine thenTail_cons ?_
 go_wp2_with fail
 refine thenTail_cons ?_
 go_wp2_with fail
 refine thenTail_nil ?_
 have hrA := node_e (v := .iface 163 (.pointer (some ⟨p, 0, none⟩))) HR1.out
 have hbA : Spare (fun k => k ≠ np) w (W.setCell ⟨np, 6, none⟩ (.iface 163 (.pointer (some ⟨p, 0, none⟩)))) := (Spare.of_below _ HW.out).trans (Spare.of_but ((But.refl np W).set 6 _)) (fun _ _ h => h)
 have hpA : (W.setCell ⟨np, 6, none⟩ (.iface 163 (.pointer (some ⟨p, 0, none⟩)))).heap[p]? = some (.cells (engS (h0Z false bs) 0 (.slice none 0 0)) 167 (0, 0)) := (heap_setCell_other W _ _ _ (by show p ≠ np; omega)).trans HP2.out
 generalize W.setCell ⟨np, 6, none⟩ (.iface 163 (.pointer (some ⟨p, 0, none⟩))) = WA at *
 clear HW HR1 HP2 c6 f6 hnp1 W
 have c4 : WA.cell? ⟨np, 4, none⟩ = some (.bool la) := cell_of_heap hrA 4
 have f4 := frozen_of_row WA np 4 _ _ hrA
 have hnpA : np < WA.heap.size := (Array.getElem?_eq_some_iff.1 hrA).1
 have HRA := Lib.hid hrA
 have HBA := Lib.hid hbA
 have HPA := Lib.hid hpA
 clear hrA hbA hpA
 go_upto_region 2 with (fail)
 have hrA := node_last (b := false) HRA.out
 have hbA : Spare (fun k => k ≠ np) w (WA.setCell ⟨np, 4, none⟩ (.bool false)) := HBA.out.trans (Spare.of_but ((But.refl np WA).set 4 _)) (fun _ _ h => h)
 have hpA : (WA.setCell ⟨np, 4, none⟩ (.bool false)).heap[p]? = some (.cells (engS (h0Z false bs) 0 (.slice none 0 0)) 167 (0, 0)) := (heap_setCell_other WA _ _ _ (by show p ≠ np; omega)).trans HPA.out
 generalize WA.setCell ⟨np, 4, none⟩ (.bool false) = A1 at *
 clear HBA HRA HPA c4 f4 hnpA WA
 obtain ⟨WA, rfl⟩ : ∃ WA, A1 = WA := ⟨_, rfl⟩
 have HRA := Lib.hid hrA
 have HBA := Lib.hid hbA
 have HPA := Lib.hid hpA
 have hnpA : np < A1.heap.size := (Array.getElem?_eq_some_iff.1 hrA).1
 have c5 : A1.cell? ⟨np, 5, none⟩ = some (.int .u64 wr) := cell_of_heap hrA 5
 have f5 := frozen_of_row A1 np 5 _ _ hrA
 clear hrA hbA hpA
 go_upto_region 3 with (fail)
 have hrA := node_wr (x := 0) HRA.out
 have hbA : Spare (fun k => k ≠ np) w (A1.setCell ⟨np, 5, none⟩ (.int .u64 0)) := HBA.out.trans (Spare.of_but ((But.refl np A1).set 5 _)) (fun _ _ h => h)
 have hpA : (A1.setCell ⟨np, 5, none⟩ (.int .u64 0)).heap[p]? = some (.cells (engS (h0Z false bs) 0 (.slice none 0 0)) 167 (0, 0)) := (heap_setCell_other A1 _ _ _ (by show p ≠ np; omega)).trans HPA.out
 have hs0 : w.heap.size ≤ (A1.setCell ⟨np, 5, none⟩ (.int .u64 0)).heap.size := hbA.size
 generalize A1.setCell ⟨np, 5, none⟩ (.int .u64 0) = WA at *
 clear HBA HRA HPA c5 f5 hnpA A1
 have c3 : WA.cell? ⟨np, 3, none⟩ = some (.slice ka kz.length kc) := cell_of_heap hrA 3
 have hnpA : np < WA.heap.size := (Array.getElem?_eq_some_iff.1 hrA).1
 have hpA2 : p < WA.heap.size := (Array.getElem?_eq_some_iff.1 hpA).1
 have HRA := Lib.hid hrA
 have HBA := Lib.hid hbA
 have HPA := Lib.hid hpA
 clear hrA hbA hpA
 by_cases hk0 : kz.length = 0
 case pos =>
  obtain rfl : kz = [] := List.eq_nil_of_length_eq_zero hk0
  go_wp2
  go_end0
  exact ⟨rfl, ⟨p, .slice none 0 0, hp1, HRA.out, eng_nil HPA.out, fun g h => by cases h⟩, HBA.out⟩
 have hk1 : 0 < kz.length := by omega
 have hk2 : (kz.length : Int) ≤ 32 := by omega
 go_upto_region 4 with (fail)
 have hKA : Hold WA (.slice ka kz.length kc) kz := HK.out.keep HBA.out.size fun b hb hlt => HBA.out.block b hlt (fun e => HKN.out (by rw [hb, e]))
 have HKA := Lib.hid hKA
 have hpz := padZ_length (n := 64) (zs := kz) (by omega)
 have HPZ := Lib.hid hpz
 have HK0 := Lib.hid hk0
 clear hKA hpz hk0 c3
 have hkp : (Value.slice ka kz.length kc).ownBlock ≠ some p := fun e => by have := hold_own HK.out (fun e => by rw [e] at hk1; simp at hk1) e; omega
 refine wp_region_one (fun f W => W.heap[np]? = some (.cells (nodeC 2 dg bv (.slice ka kz.length kc) false 0 (.iface 163 (.pointer (some ⟨p, 0, none⟩)))) 84 (0, 0)) ∧ (f = false → Below WA.heap.size WA W) ∧ (WA.heap.size ≤ W.heap.size ∧ (∀ b, b < WA.heap.size → b ≠ p → W.heap[b]? = WA.heap[b]?)) ∧ (f = true → Spare (fun k => k ≠ p) WA W ∧ ∃ hv, EngAt false W p hv (h0Z false bs) (padZ 64 kz) ∧ ∀ g, hv.ownBlock = some g → WA.heap.size ≤ g)) 16 [26, 27, 28, 29, 30, 31, 32, 33, 34, 35, 36, 37, 38, 39, 40, 41, 42] [.own (vl (.pointer (some ⟨np, 0, none⟩))), .own (vl (.pointer (some ⟨np, 0, none⟩))), .own (vl (.pointer (some ⟨np, 6, none⟩))), .own (vl (.iface 163 (.pointer (some ⟨p, 0, none⟩)))), .own (vl (.pointer (some ⟨np, 0, none⟩))), .own (vl (.pointer (some ⟨np, 0, none⟩))), .own (vl (.pointer (some ⟨np, 3, none⟩))), .own (vl (.slice ka kz.length kc)), .own (vl (.pointer (some ⟨np, 0, none⟩))), .own (vl (.pointer (some ⟨np, 0, none⟩))), .own (vl (.pointer (some ⟨np, 0, none⟩))), .own (vl (.int .i64 2)), .own (vl (.int .i64 64)), .own (fun u W => W.ownsRow WA.heap.size 5 1 u 64 ((padZ 64 kz).map encB)), .own (vl (.iface 163 (.pointer (some ⟨p, 0, none⟩)))), .own (vl (.iface 163 (.pointer (some ⟨p, 0, none⟩)))), .own (fun _ _ => True)] rfl (by rfl) (by decide) (by kernel_rfl) (by rfl) (by kernel_rfl) (by decide) (by kernel_rfl) ⟨HRA.out, fun _ => (Below.refl _ _).drew, ⟨Nat.le_refl _, fun _ _ _ => rfl⟩, fun h => (by cases h)⟩ (fun f W W' h hb => ⟨rowStay h.1 hb, fun e => (h.2.1 e).trans (hb.mono (h.2.1 e).size), ⟨Nat.le_trans h.2.2.1.1 hb.size, fun b h1 h2 => (hb.block b (Nat.lt_of_lt_of_le h1 h.2.2.1.1)).trans (h.2.2.1.2 b h1 h2)⟩, fun e => by obtain ⟨h1, hv, h2, h3⟩ := h.2.2.2 e; exact ⟨h1.trans (Spare.of_below _ hb) (fun _ _ h => h), hv, eng_below h2 hb, h3⟩⟩) ?_ ?_ ?_
 ·exact ⟨kW, kW, kW, kW, kW, kW, kW, kW, kW, kW, kW, kW, kW, (fun _ _ hb _ h => ownsRow_same' h (fun g _ hg => hb.block g hg)), kW, kW, kW, trivial⟩
 ·refine eachO_cons (.inl ⟨rfl, ?_⟩) (eachO_cons (.inl ⟨rfl, ?_⟩) (eachO_cons (.inl ⟨rfl, ?_⟩) (eachO_cons (.inl ⟨rfl, ?_⟩) (eachO_cons (.inl ⟨rfl, ?_⟩) (eachO_cons (.inl ⟨rfl, ?_⟩) (eachO_cons (.inl ⟨rfl, ?_⟩) (eachO_cons (.inl ⟨rfl, ?_⟩) (eachO_cons (.inl ⟨rfl, ?_⟩) (eachO_cons (.inl ⟨rfl, ?_⟩) (eachO_cons (.inl ⟨rfl, ?_⟩) (eachO_cons (.inl ⟨rfl, ?_⟩) (eachO_cons (.inl ⟨rfl, ?_⟩) (eachO_cons (.inl ⟨rfl, ?_⟩) (eachO_cons (.inl ⟨rfl, ?_⟩) (eachO_cons (.inl ⟨rfl, ?_⟩) (eachO_cons (.inr ⟨rfl, ?_⟩) (eachO_nil)))))))))))))))))
  ·intro A x W f hA hR hf hdep K hK
   have a0 := hA.2 0 (by decide)
   conv at a0 => rhs; whnf
   clear hdep hA
   go_simp
   exact hK _ _ BR rfl
  ·intro A x W f hA hR hf hdep K hK
   have g26 := gw hA hdep 0 26
   clear hdep hA
   go_simp
   exact hK _ _ BR rfl
  ·intro A x W f hA hR hf hdep K hK
   have g27 := gw hA hdep 1 27
   clear hdep hA
   go_simp
   exact hK _ _ BR rfl
  ·intro A x W f hA hR hf hdep K hK
   have g28 := gw hA hdep 2 28
   clear hdep hA
   have g0 := hR.1
   have c0 : W.cell? ⟨np, 6, none⟩ = some (.iface 163 (.pointer (some ⟨p, 0, none⟩))) := cell_of_heap g0 6
   go_simp
   exact hK _ _ BR rfl
  ·intro A x W f hA hR hf hdep K hK
   have a0 := hA.2 0 (by decide)
   conv at a0 => rhs; whnf
   clear hdep hA
   go_simp
   exact hK _ _ BR rfl
  ·intro A x W f hA hR hf hdep K hK
   have g30 := gw hA hdep 4 30
   clear hdep hA
   go_simp
   exact hK _ _ BR rfl
  ·intro A x W f hA hR hf hdep K hK
   have g31 := gw hA hdep 5 31
   clear hdep hA
   go_simp
   exact hK _ _ BR rfl
  ·intro A x W f hA hR hf hdep K hK
   have g32 := gw hA hdep 6 32
   clear hdep hA
   have g0 := hR.1
   have c0 : W.cell? ⟨np, 3, none⟩ = some (.slice ka kz.length kc) := cell_of_heap g0 3
   go_simp
   exact hK _ _ BR rfl
  ·intro A x W f hA hR hf hdep K hK
   have a0 := hA.2 0 (by decide)
   conv at a0 => rhs; whnf
   clear hdep hA
   go_simp
   exact hK _ _ BR rfl
  ·intro A x W f hA hR hf hdep K hK
   have g34 := gw hA hdep 8 34
   clear hdep hA
   go_simp
   exact hK _ _ BR rfl
  ·intro A x W f hA hR hf hdep K hK
   have g35 := gw hA hdep 9 35
   clear hdep hA
   go_simp
   exact hK _ _ BR rfl
  ·intro A x W f hA hR hf hdep K hK
   have g36 := gw hA hdep 10 36
   clear hdep hA
   have g0 := hR.1
   have c0 : W.cell? ⟨np, 0, none⟩ = some (.int .i64 2) := cell_of_heap g0 0
   go_simp
   exact hK _ _ BR rfl
  ·intro A x W f hA hR hf hdep K hK
   have g37 := gw hA hdep 11 37
   clear hdep hA
   go_simp
   refine (blockOf_ok false _).mono ?_; rintro e w' ⟨rfl, hw⟩; exact hK _ _ (by rw [hw]; exact Below.refl _ _) rfl
  ·intro A x W f hA hR hf hdep K hK
   have g33 := gw hA hdep 7 33
   have g38 := gw hA hdep 12 38
   clear hdep hA
   go_simp
   have hKW : Hold W (.slice ka kz.length kc) kz := HKA.out.keep hR.2.2.1.1 (fun b hb hlt => hR.2.2.1.2 b hlt (fun e => hkp (by rw [hb, e])))
   refine (padded_ok kz _ 64 _ hKW (by omega) (by decide)).mono ?_; rintro e w' ⟨u, rfl, ho, hb⟩; exact hK _ _ hb (ownsRow_le ho hR.2.2.1.1)
  ·intro A x W f hA hR hf hdep K hK
   have g29 := gw hA hdep 3 29
   clear hdep hA
   go_simp
   exact hK _ _ BR rfl
  ·intro A x W f hA hR hf hdep K hK
   have g29 := gw hA hdep 3 29
   have g40 := gw hA hdep 14 40
   clear hdep hA
   go_simp
   exact hK _ _ BR rfl
  ·intro A x W hA hR hdep K hK
   have g41 := gw hA hdep 15 41
   have g39 : (fun u W => W.ownsRow WA.heap.size 5 1 u 64 ((padZ 64 kz).map encB)) (x 39) W := hdep ⟨13, .data⟩ (by simp) rfl
   have a39 : A.tmps.getD 39 undef = x 39 := hA.1 39 (by decide)
   clear hdep hA
   have hB := hR.2.1 rfl
   go_simp
   refine upon_method (f := 181) (by kernel_rfl) ?_
   go_simp
   have hbz := padZ_bounds (n := 64) HK.out.1
   have hx39 : Hold W (x 39) (padZ 64 kz) := hold_of_own g39 hbz
   refine (write_false (h0Z false bs) [] (padZ 64 kz) (h0Z_words false bs) (fun _ h => by cases h) p (.slice none 0 0) (x 39) W (eng_nil (rowStay HPA.out hB)) hx39 (fun _ b hb => ⟨fun e => by have := own_base g39 hb; omega, fun e => by cases e⟩) (by rw [HPZ.out]; simp)).mono ?_
   rintro e w' ⟨rfl, ⟨hv', hE', hO'⟩, hS'⟩
   refine hK _ _ (fun h => by cases h) ⟨(hS'.block np (Array.getElem?_eq_some_iff.1 hR.1).1 ⟨by omega, fun e => by cases e⟩).trans hR.1, fun h => (by cases h), ⟨Nat.le_trans hR.2.2.1.1 hS'.size, fun b h1 h2 => (hS'.block b (Nat.lt_of_lt_of_le h1 hR.2.2.1.1) ⟨h2, fun e => by cases e⟩).trans (hR.2.2.1.2 b h1 h2)⟩, fun _ => ⟨(Spare.of_below _ hB).trans hS' (fun b _ h => ⟨h, fun e => by cases e⟩), hv', hE', fun g hg => ?_⟩⟩ ⟨.inr (fun _ h => h), .inr (fun _ h => h), .inr (fun _ h => h), .inr (fun _ h => h), .inr (fun _ h => h), .inr (fun _ h => h), .inr (fun _ h => h), .inr (fun _ h => h), .inr (fun _ h => h), .inr (fun _ h => h), .inr (fun _ h => h), .inr (fun _ h => h), .inr (fun _ h => h), .inr (fun u h => ownsRow_same' h (fun g h1 h2 => hS'.block g h2 ⟨by omega, fun e => by cases e⟩)), .inr (fun _ h => h), .inr (fun _ h => h), .inl rfl, trivial⟩ trivial
   rcases hO' with hO' | hO'
   ·rw [hO'] at hg; cases hg
   ·have := hO' g hg; have := hB.size; omega
 intro x W hR hall
 obtain ⟨e26, e27, e28, e29, e30, e31, e32, e33, e34, e35, e36, e37, e38, e39, e40, e41, e42, -⟩ := hall
 change x 26 = (.pointer (some ⟨np, 0, none⟩) : Value) at e26
 change x 27 = (.pointer (some ⟨np, 0, none⟩) : Value) at e27
 change x 28 = (.pointer (some ⟨np, 6, none⟩) : Value) at e28
 change x 29 = (.iface 163 (.pointer (some ⟨p, 0, none⟩)) : Value) at e29
 change x 30 = (.pointer (some ⟨np, 0, none⟩) : Value) at e30
 change x 31 = (.pointer (some ⟨np, 0, none⟩) : Value) at e31
 change x 32 = (.pointer (some ⟨np, 3, none⟩) : Value) at e32
 change x 33 = (.slice ka kz.length kc : Value) at e33
 change x 34 = (.pointer (some ⟨np, 0, none⟩) : Value) at e34
 change x 35 = (.pointer (some ⟨np, 0, none⟩) : Value) at e35
 change x 36 = (.pointer (some ⟨np, 0, none⟩) : Value) at e36
 change x 37 = (.int .i64 2 : Value) at e37
 change x 38 = (.int .i64 64 : Value) at e38
 change (fun u W => W.ownsRow WA.heap.size 5 1 u 64 ((padZ 64 kz).map encB)) (x 39) W at e39
 change x 40 = (.iface 163 (.pointer (some ⟨p, 0, none⟩)) : Value) at e40
 change x 41 = (.iface 163 (.pointer (some ⟨p, 0, none⟩)) : Value) at e41
 change ((fun _ _ => True)) (x 42) W at e42
 simp only [lay, Act.put, List.setIfInBounds_toArray, List.set_cons_zero, List.set_cons_succ, e26, e27, e28, e29, e30, e31, e32, e33, e34, e35, e36, e37, e38, e40, e41]
 clear e26 e27 e28 e29 e30 e31 e32 e33 e34 e35 e36 e37 e38 e40 e41
 obtain ⟨hr9, -, -, h9⟩ := hR
 obtain ⟨hs9, hv9, hE9, ho9⟩ := h9 rfl
 have H9 := Lib.hid (show (∃ p hv, w.heap.size ≤ p ∧ W.heap[np]? = some (.cells (nodeC 2 dg bv (.slice ka kz.length kc) false 0 (.iface 163 (.pointer (some ⟨p, 0, none⟩)))) 84 (0, 0)) ∧ EngAt false W p hv (h0Z false bs) (keyZ 64 kz) ∧ (∀ g, hv.ownBlock = some g → w.heap.size ≤ g)) ∧ Spare (fun k => k ≠ np) w W from ⟨⟨p, hv9, hp1, hr9, by unfold keyZ; rw [if_neg HK0.out]; exact hE9, fun g hg => Nat.le_trans hs0 (ho9 g hg)⟩, HBA.out.trans hs9 (fun b hb _ => by omega)⟩)
 clear hr9 hs9 hE9 ho9 h9 e39
 go_wp2
 go_end0
 exact ⟨rfl, H9.out⟩
end Go.Proofs.YtjogmckaakkomaaGreat
