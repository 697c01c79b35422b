/- Bytes are written, by the reference. No condition. -/
import Derived.Test.YtjogmckaakkomaaGreatK50
import Derived.Test.YtjogmckaakkomaaGreatK41
import Derived.Test.YtjogmckaakkomaaGreatK49
namespace Go.Proofs.YtjogmckaakkomaaGreat
open Go.ChangeShapes Go.WideShapes Go.ChangeAt Go.RowKit Go.Joins Go.Shelf Go.Maps
attribute [local go_sem] Oper.semAt_some

theorem rNode_msg {big : Bool} {W : World} {np : Nat} {v : Nat → Nat} {sa pe kv mv x : Value} {la : Bool} {cnt : Int} (h : rNode big W np v sa pe kv la mv cnt) : rNode big (W.setCell ⟨np, 33, none⟩ x) np v sa pe kv la x cnt := heap_setCell_same W np 33 _ _ x h
theorem rNode_cnt {big : Bool} {W : World} {np : Nat} {v : Nat → Nat} {sa pe kv mv : Value} {la : Bool} {cnt x : Int} (h : rNode big W np v sa pe kv la mv cnt) : rNode big (W.setCell ⟨np, 34, none⟩ (.int .u64 x)) np v sa pe kv la mv x := heap_setCell_same W np 34 _ _ _ h
theorem rNode_last {big : Bool} {W : World} {np : Nat} {v : Nat → Nat} {sa pe kv mv : Value} {la b : Bool} {cnt : Int} (h : rNode big W np v sa pe kv la mv cnt) : rNode big (W.setCell ⟨np, 13, none⟩ (.bool b)) np v sa pe kv b mv cnt := heap_setCell_same W np 13 _ _ _ h
theorem own_lt {W : World} {n b : Nat} {v : Value} {xs : List Value} (h : W.ownsRow 0 5 1 v n xs) (hb : v.ownBlock = some b) : b < W.heap.size := by
 rcases h.2 with ⟨rfl, -⟩ | ⟨g, cap, cur, rfl, h1, h2, -⟩
 ·cases hb
 ·simp only [Value.ownBlock, Option.some.injEq] at hb
  subst hb; exact (Array.getElem?_eq_some_iff.1 h2).1
set_option maxRecDepth 100000 in
set_option maxHeartbeats 4000000 in
theorem refWrite_any (big : Bool) (v : Nat → Nat) (msg bs : List Int) (sa pe kv mv bv : Value) (la : Bool) (cnt : Int) (np : Nat) (w : World) (hN : rNode big w np v sa pe kv la mv cnt) (hO : w.ownsRow 0 5 1 mv msg.length (msg.map encB)) (hH : Hold w bv bs) (hF : bs ≠ [] → ∀ b, bv.ownBlock = some b → FreeOf np mv b) (hlen : (msg.length : Int) + bs.length ≤ 140737488355328) :
  Calls Tryz.prog 67 #[.pointer (some ⟨np, 0, none⟩), bv] w fun e w' => e = .returned (.tuple #[]) ∧ (∃ mv' cnt', rNode big w' np v sa pe kv la mv' cnt' ∧ w'.ownsRow 0 5 1 mv' (msg ++ bs).length ((msg ++ bs).map encB)) ∧ Spare (FreeOf np mv) w w' := by
 obtain ⟨i0, hi, hz0, hz1, hz2⟩ := info_parts info_u8
 have hnp : np < w.heap.size := (Array.getElem?_eq_some_iff.1 hN).1
 obtain ⟨ba, bc, rfl, hbc1, hbc2⟩ := hH.slice
 obtain ⟨S, hS⟩ : ∃ S, FreeOf np mv = S := ⟨_, rfl⟩
 rw [hS]
 have HN_ := Lib.hid hN
 have HO_ := Lib.hid hO
 have HH_ := Lib.hid hH
 have HF_ := Lib.hid hF
 have HS_ := Lib.hid hS
 clear hN hO hH hF hS hbc1
 have hbl : (bs.length : Int) ≤ 140737488355328 := by omega
 go_enter Tryz.func67, Tryz.ntmps67
 go_wp2_with fail
 go_loopw [4] (fun i wr => ∃ j : Nat, i = .int .i64 (j : Nat) ∧ j ≤ bs.length ∧ (∃ mv', rNode big wr np v sa pe kv la mv' cnt ∧ wr.ownsRow 0 5 1 mv' (msg.length + j) ((msg ++ bs.take j).map encB) ∧ (mv'.ownBlock = mv.ownBlock ∨ ∀ g, mv'.ownBlock = some g → w.heap.size ≤ g)) ∧ Spare S w wr) (fun i _ => bs.length - (intOf i).toNat)
 case atStart => exact ⟨0, rfl, Nat.zero_le _, ⟨mv, HN_.out, by simpa using HO_.out, .inl rfl⟩, Spare.refl _ _⟩
 case round =>
  obtain ⟨j, rfl, hj, ⟨mv1, hn, ho, hw⟩, hsp⟩ := hrel
  obtain ⟨a1, n1, c1, rfl⟩ := own_slice ho
  have hn1 : n1 = msg.length + j := own_len ho
  subst hn1
  have hnw : np < wr.heap.size := (Array.getElem?_eq_some_iff.1 hn).1
  have HNr := Lib.hid hn
  have HOr := Lib.hid ho
  have HWr := Lib.hid hw
  have HSPr := Lib.hid hsp
  by_cases hlt : j < bs.length
  case neg =>
   obtain rfl : j = bs.length := by omega
   have c34 : wr.cell? ⟨np, 34, none⟩ = some (.int .u64 cnt) := cell_of_heap hn 34
   have f34 := frozen_of_row wr np 34 _ _ hn
   clear hn ho hw hsp
   go_wp2
   go_end0
   have hbt := (But.refl np wr).set 34 (.int .u64 (IntKind.u64.wrap (cnt + (bs.length : Int))))
   refine ⟨rfl, ⟨_, _, rNode_cnt HNr.out, ?_⟩, HSPr.out.trans (Spare.of_but ((But.refl np wr).set 34 _)) (fun b _ hb => by have h2 := HS_.out; subst h2; exact hb.1)⟩
   have h1 := HOr.out
   rw [List.take_length] at h1
   rw [List.length_append]
   exact own_but h1 ((But.refl np wr).set 34 _) HNr.out (by decide)
  have hne : bs ≠ [] := fun e => by rw [e] at hlt; simp at hlt
  have hbh : Hold wr (.slice ba bs.length bc) bs := hold_spare HH_.out HH_.out rfl (Spare.refl S w) hsp (fun b hb => by have h4 := HS_.out; subst h4; exact HF_.out hne b hb) hne
  obtain ⟨bb, of', rfl, q1, q2, q3, q4⟩ := hold_nth' hbh (Below.refl _ _) hlt
  have hjj : (j : Int) < bs.length := by omega
  have hbt : msg ++ bs.take (j + 1) = (msg ++ bs.take j) ++ [nthz bs j] := by rw [take_snoc hlt, List.append_assoc]
  have HBT := Lib.hid hbt
  have HBH := Lib.hid hbh
  obtain ⟨z, hz⟩ : ∃ z, nthz bs j = z := ⟨_, rfl⟩
  rw [hz] at q2 q3 q4
  have HZ := Lib.hid hz
  have Q2 := Lib.hid q2
  have hml : (msg.length : Int) + j < 140737488355328 := by omega
  clear hn ho hw hsp hbt hbh hz q2
  go_upto_region 3 with (fail)
  have hread : ∀ (W : World) (f : Bool), ((f = false → Below wr.heap.size wr W) ∧ (f = true → W.heap[np]? = some (.cells (rN (kB big) v sa pe kv la (.slice a1 (msg.length + j) c1) cnt) 125 (0, 0)) ∧ Spare (fun b => (Value.slice a1 (msg.length + j) c1).ownBlock ≠ some b) wr W)) → W.cell? ⟨bb, of' + j, none⟩ = some (.int .u8 z) := fun W f hR => by
   cases f
   ·exact ((hR.1 rfl).cell (p := ⟨bb, of' + j, none⟩) q1).trans Q2.out
   ·refine (World.cell?_of_block ((hR.2 rfl).2.block bb q1 ?_)).trans Q2.out
    have h4 := HS_.out; subst h4
    have h5 := (HF_.out hne bb rfl).2
    rcases HWr.out with h6 | h6
    ·rw [h6]; exact h5
    ·intro e; have := h6 bb e; have h7 : bb < w.heap.size := hold_own HH_.out hne rfl; omega
  have hsize : ∀ (W : World) (f : Bool), ((f = false → Below wr.heap.size wr W) ∧ (f = true → W.heap[np]? = some (.cells (rN (kB big) v sa pe kv la (.slice a1 (msg.length + j) c1) cnt) 125 (0, 0)) ∧ Spare (fun b => (Value.slice a1 (msg.length + j) c1).ownBlock ≠ some b) wr W)) → bb < W.heap.size := fun W f hR => by
   cases f
   ·exact Nat.lt_of_lt_of_le q1 (hR.1 rfl).size
   ·exact Nat.lt_of_lt_of_le q1 (hR.2 rfl).2.size
  have hsize2 : ∀ (W : World) (f : Bool), ((f = false → Below wr.heap.size wr W) ∧ (f = true → W.heap[np]? = some (.cells (rN (kB big) v sa pe kv la (.slice a1 (msg.length + j) c1) cnt) 125 (0, 0)) ∧ Spare (fun b => (Value.slice a1 (msg.length + j) c1).ownBlock ≠ some b) wr W)) → wr.heap.size ≤ W.heap.size := fun W f hR => by
   cases f
   ·exact (hR.1 rfl).size
   ·exact (hR.2 rfl).2.size
  refine wp_region_onet (n := 11) (by dsimp only [List.take]) (by dsimp only [List.drop]) (by kernel_rfl) (fun f W => (f = false → Below wr.heap.size wr W) ∧ (f = true → W.heap[np]? = some (.cells (rN (kB big) v sa pe kv la (.slice a1 (msg.length + j) c1) cnt) 125 (0, 0)) ∧ Spare (fun b => (Value.slice a1 (msg.length + j) c1).ownBlock ≠ some b) wr W)) 10 [11, 12, 13, 14, 15, 16, 17, 18, 19, 20, 21] [.own (vl (.pointer (some ⟨np, 0, none⟩))), .own (vl (.pointer (some ⟨np, 0, none⟩))), .own (vl (.pointer (some ⟨np, 0, none⟩))), .own (vl (.pointer (some ⟨np, 33, none⟩))), .own (vl (.slice a1 (msg.length + j) c1)), .own (vl (.slice (some ⟨bb, of', none⟩) bs.length bc)), .own (vl (.int .i64 (j : Nat))), .own (vl (.pointer (some ⟨bb, of' + j, none⟩))), .own (vl (.int .u8 z)), .own (fun u W => ∃ q, u = .slice (some ⟨q, 0, none⟩) 1 1 ∧ wr.heap.size ≤ q ∧ W.heap[q]? = some (.cells #[.int .u8 z] 5 (0, 0))), .own (fun u W => W.ownsRow 0 5 1 u (msg.length + (j + 1)) ((msg ++ bs.take (j + 1)).map encB) ∧ (u.ownBlock = (Value.slice a1 (msg.length + j) c1).ownBlock ∨ ∀ g, u.ownBlock = some g → wr.heap.size ≤ g))] rfl (by rfl) (by decide) (by kernel_rfl) (by rfl) (by kernel_rfl) (by decide) (by kernel_rfl) ⟨fun _ => (Below.refl _ _).drew, fun h => (by cases h)⟩ (fun f W W' h hb => ⟨fun e => (h.1 e).trans (hb.mono (h.1 e).size), fun e => ⟨rowStay (h.2 e).1 hb, (h.2 e).2.trans (Spare.of_below _ hb) (fun _ _ h => h)⟩⟩) ?_ ?_ ?_
  ·exact ⟨kW, kW, kW, kW, kW, kW, kW, kW, kW, (fun _ _ hb _ h => by obtain ⟨q, e, h1, h2⟩ := h; exact ⟨q, e, h1, rowStay h2 hb⟩), (fun _ _ hb u h => ⟨ownsRow_same' h.1 (fun g _ hg => hb.block g hg), h.2⟩), trivial⟩
  ·refine eachO_cons (.inl ⟨rfl, ?_⟩) (eachO_cons (.inl ⟨rfl, ?_⟩) (eachO_cons (.inl ⟨rfl, ?_⟩) (eachO_cons (.inl ⟨rfl, ?_⟩) (eachO_cons (.inl ⟨rfl, ?_⟩) (eachO_cons (.inl ⟨rfl, ?_⟩) (eachO_cons (.inl ⟨rfl, ?_⟩) (eachO_cons (.inl ⟨rfl, ?_⟩) (eachO_cons (.inl ⟨rfl, ?_⟩) (eachO_cons (.inl ⟨rfl, ?_⟩) (eachO_cons (.inr ⟨rfl, ?_⟩) (eachO_nil)))))))))))
   ·intro A x W f hA hR hf hdep K hK
    have a0 := hA.2 0 (by decide)
    conv at a0 => rhs; whnf
    clear hdep hA
    go_simp
    exact hK _ _ BR rfl
   ·intro A x W f hA hR hf hdep K hK
    have a0 := hA.2 0 (by decide)
    conv at a0 => rhs; whnf
    clear hdep hA
    go_simp
    exact hK _ _ BR rfl
   ·intro A x W f hA hR hf hdep K hK
    have g12 := gw hA hdep 1 12
    clear hdep hA
    go_simp
    exact hK _ _ BR rfl
   ·intro A x W f hA hR hf hdep K hK
    have g13 := gw hA hdep 2 13
    clear hdep hA
    go_simp
    exact hK _ _ BR rfl
   ·intro A x W f hA hR hf hdep K hK
    have g14 := gw hA hdep 3 14
    clear hdep hA
    have hf0 : f = false := hf (by kernel_rfl)
    have g0 := rowStay HNr.out (hR.1 hf0)
    have c0 : W.cell? ⟨np, 33, none⟩ = some (.slice a1 (msg.length + j) c1) := cell_of_heap g0 33
    go_simp
    exact hK _ _ BR rfl
   ·intro A x W f hA hR hf hdep K hK
    have a1 := hA.2 1 (by decide)
    conv at a1 => rhs; whnf
    clear hdep hA
    go_simp
    exact hK _ _ BR rfl
   ·intro A x W f hA hR hf hdep K hK
    have a4 := hA.2 4 (by decide)
    conv at a4 => rhs; whnf
    clear hdep hA
    go_simp
    exact hK _ _ BR rfl
   ·intro A x W f hA hR hf hdep K hK
    have g16 := gw hA hdep 5 16
    have g17 := gw hA hdep 6 17
    clear hdep hA
    go_simp
    exact hK _ _ BR rfl
   ·intro A x W f hA hR hf hdep K hK
    have g18 := gw hA hdep 7 18
    clear hdep hA
    have c0 : W.cell? ⟨bb, of' + j, none⟩ = some (.int .u8 z) := hread W f hR
    have q9 : bb < W.heap.size := hsize W f hR
    go_simp
    exact hK _ _ BR rfl
   ·intro A x W f hA hR hf hdep K hK
    have g19 := gw hA hdep 8 19
    clear hdep hA
    have g19' : A.tmps[19]?.getD undef = .int .u8 z := by rw [← Array.getD_eq_getD_getElem?]; exact g19
    go_simp
    exact hK _ _ ((Below.refl _ _).alloc (Nat.le_refl _) _) ⟨W.heap.size, rfl, hsize2 W f hR, World.alloc_heap_new W _⟩
   ·intro A x W hA hR hdep K hK
    have g15 := gw hA hdep 4 15
    have g20 : (fun u W => ∃ q, u = .slice (some ⟨q, 0, none⟩) 1 1 ∧ wr.heap.size ≤ q ∧ W.heap[q]? = some (.cells #[.int .u8 z] 5 (0, 0))) (x 20) W := hdep ⟨9, .data⟩ (by simp) rfl
    have a20 : A.tmps.getD 20 undef = x 20 := hA.1 20 (by decide)
    clear hdep hA
    have hB := hR.1 rfl
    have ho := ownsRow_same' HOr.out (fun g _ hg => hB.block g hg)
    have g0 := rowStay HNr.out hB
    obtain ⟨qb, eq, hq1, hq2⟩ := g20
    refine wp_append_src2 _ _ 23 rfl 0 5 i0 (.int .u8 0) 1 Tryz.underlying23 hi hz0 hz1 hz2 rfl (.slice a1 (msg.length + j) c1) (msg.length + j) ((msg ++ bs.take j).map encB) g15 ho (.slice (some ⟨qb, 0, none⟩) 1 1) 1 [.int .u8 z] (a20.trans eq) ⟨rfl, by simp [Value.oneCell'], .inr ⟨⟨qb, 0, none⟩, 1, rfl, src_row hq2⟩⟩ (by unfold maxLen; omega) (by omega) (Nat.zero_le _) ?_
    intro v' w' h1 h2 h3
    have h4 : w'.heap[np]? = some (.cells (rN (kB big) v sa pe kv la (.slice a1 (msg.length + j) c1) cnt) 125 (0, 0)) := (h2.block np (Array.getElem?_eq_some_iff.1 g0).1 (own_ne ho g0 (by decide))).trans g0
    have h5 : w'.ownsRow 0 5 1 v' (msg.length + (j + 1)) ((msg ++ bs.take (j + 1)).map encB) := by rw [HBT.out, HZ.out, List.map_append, ← Nat.add_assoc]; exact h1
    have h6 : ∀ b, (Value.slice a1 (msg.length + j) c1).ownBlock = some b → b < wr.heap.size := fun b hb => own_lt HOr.out hb
    refine hK v' w' (fun h => by cases h) ⟨fun h => (by cases h), fun _ => ⟨h4, (Spare.of_below _ hB).trans (Spare.of_grown h2) (fun _ _ h => h)⟩⟩ ⟨.inr (fun _ h => h), .inr (fun _ h => h), .inr (fun _ h => h), .inr (fun _ h => h), .inr (fun _ h => h), .inr (fun _ h => h), .inr (fun _ h => h), .inr (fun _ h => h), .inr (fun _ h => h), .inr (fun u h => by obtain ⟨q, e, k1, k2⟩ := h; exact ⟨q, e, k1, (h2.block q (Array.getElem?_eq_some_iff.1 k2).1 (fun e2 => by have := h6 q e2.symm; omega)).trans k2⟩), .inl rfl, trivial⟩ ⟨h5, ?_⟩
    rcases h3 with h3 | h3
    ·exact .inl h3
    ·refine .inr fun g hg => ?_
     rw [h3] at hg; cases hg; exact hB.size
  intro x W hR hall
  obtain ⟨e11, e12, e13, e14, e15, e16, e17, e18, e19, e20, e21, -⟩ := hall
  change x 11 = (.pointer (some ⟨np, 0, none⟩) : Value) at e11
  change x 12 = (.pointer (some ⟨np, 0, none⟩) : Value) at e12
  change x 13 = (.pointer (some ⟨np, 0, none⟩) : Value) at e13
  change x 14 = (.pointer (some ⟨np, 33, none⟩) : Value) at e14
  change x 15 = (.slice a1 (msg.length + j) c1 : Value) at e15
  change x 16 = (.slice (some ⟨bb, of', none⟩) bs.length bc : Value) at e16
  change x 17 = (.int .i64 (j : Nat) : Value) at e17
  change x 18 = (.pointer (some ⟨bb, of' + j, none⟩) : Value) at e18
  change x 19 = (.int .u8 z : Value) at e19
  change (fun u W => ∃ q, u = .slice (some ⟨q, 0, none⟩) 1 1 ∧ wr.heap.size ≤ q ∧ W.heap[q]? = some (.cells #[.int .u8 z] 5 (0, 0))) (x 20) W at e20
  change ((fun u W => W.ownsRow 0 5 1 u (msg.length + (j + 1)) ((msg ++ bs.take (j + 1)).map encB) ∧ (u.ownBlock = (Value.slice a1 (msg.length + j) c1).ownBlock ∨ ∀ g, u.ownBlock = some g → wr.heap.size ≤ g))) (x 21) W at e21
  obtain ⟨hr7, hsp7⟩ := hR.2 rfl
  obtain ⟨ho7, how7⟩ := e21
  obtain ⟨a3, n3, c3, e21⟩ := own_slice ho7
  rw [e21] at ho7 how7
  obtain rfl : n3 = msg.length + (j + 1) := own_len ho7
  refine thenTail_cons ?_
  simp only [lay, Act.put, List.setIfInBounds_toArray, List.set_cons_zero, List.set_cons_succ, e11, e12, e13, e14, e15, e16, e17, e18, e19, e21]
  clear e11 e12 e13 e14 e15 e16 e17 e18 e19 e21 e20
  have c33 : W.cell? ⟨np, 33, none⟩ = some (.slice a1 (msg.length + j) c1) := cell_of_heap hr7 33
  have f33 := frozen_of_row W np 33 _ _ hr7
  have hnW : np < W.heap.size := (Array.getElem?_eq_some_iff.1 hr7).1
  have HR7 := Lib.hid hr7
  have HO7 := Lib.hid ho7
  have HOW7 := Lib.hid how7
  have HSP7 := Lib.hid hsp7
  clear hr7 ho7 how7 hsp7 hR hread hsize hsize2
  go_wp2_with fail
  refine thenTail_cons ?_
  go_wp2_with fail
  refine thenTail_cons ?_
  go_wp2_with fail
  refine thenTail_nil ?_
  have hb8 : But np W (W.setCell ⟨np, 33, none⟩ (.slice a3 (msg.length + (j + 1)) c3)) := (But.refl np W).set 33 _
  have HN8 := Lib.hid (show rNode big (W.setCell ⟨np, 33, none⟩ (.slice a3 (msg.length + (j + 1)) c3)) np v sa pe kv la (.slice a3 (msg.length + (j + 1)) c3) cnt from rNode_msg HR7.out)
  have HO8 := Lib.hid (own_but HO7.out hb8 HR7.out (by decide))
  have HW8 := Lib.hid (show (Value.slice a3 (msg.length + (j + 1)) c3).ownBlock = mv.ownBlock ∨ ∀ g, (Value.slice a3 (msg.length + (j + 1)) c3).ownBlock = some g → w.heap.size ≤ g from by
   rcases HOW7.out with h3 | h3
   ·rw [h3]; exact HWr.out
   ·exact .inr fun g hg => Nat.le_trans HSPr.out.size (h3 g hg))
  have hsp8 : Spare S w (W.setCell ⟨np, 33, none⟩ (.slice a3 (msg.length + (j + 1)) c3)) := by
   refine (HSPr.out.trans HSP7.out ?_).trans (Spare.of_but hb8) (fun b _ hb => by have h2 := HS_.out; subst h2; exact hb.1)
   intro b hb1 hb2
   have h2 := HS_.out; subst h2
   rcases HWr.out with h3 | h3
   ·rw [h3]; exact hb2.2
   ·intro e; have := h3 b e; omega
  have HSP8 := Lib.hid hsp8
  clear hb8 hsp8 c33 f33 hnW
  generalize W.setCell ⟨np, 33, none⟩ (.slice a3 (msg.length + (j + 1)) c3) = W8 at *
  go_wp2
  exact ⟨⟨j + 1, rfl, by omega, ⟨_, HN8.out, HO8.out, HW8.out⟩, HSP8.out⟩, by simp [intOf]; omega⟩
end Go.Proofs.YtjogmckaakkomaaGreat
/- A node is made, by the reference. No condition. -/
namespace Go.Proofs.YtjogmckaakkomaaGreat
open Go.ChangeShapes Go.WideShapes Go.ChangeAt Go.RowKit Go.Joins Go.Shelf Go.Maps
attribute [local go_sem] Oper.semAt_some

set_option maxRecDepth 100000 in
set_option maxHeartbeats 4000000 in
theorem refNew_ok (big : Bool) (v : Nat → Nat) (a1 a2 : Option Addr) (l1 l2 c1 c2 : Nat) (kz : List Int) (kv : Value) (w : World) (hP : ParOk big v) (hl1 : l1 ≤ sB big) (hl2 : l2 ≤ sB big) (hK : Hold w kv kz) (hkl : kz.length ≤ mB big) (hk : kz.length = 0 ∨ kz.length = v 2) :
  Calls Tryz.prog 65 #[.int .i64 (kB big), parN v (.slice a1 l1 c1) (.slice a2 l2 c2), kv] w fun e w' => ∃ np mv, e = .returned (.tuple #[.pointer (some ⟨np, 0, none⟩), .int .i64 0]) ∧ w.heap.size ≤ np ∧ rNode big w' np v (.slice a1 l1 c1) (.slice a2 l2 c2) kv false mv 0 ∧ w'.ownsRow w.heap.size 5 1 mv (keyZ (bB big) kz).length ((keyZ (bB big) kz).map encB) ∧ Below w.heap.size w w' := by
 obtain ⟨b0, hb0⟩ : ∃ b0, w.heap.size = b0 := ⟨_, rfl⟩
 obtain ⟨ka, kc, rfl, hkc1, hkc2⟩ := hK.slice
 have HCK := Lib.hid (fun (W : World) => refCheck_any big (v 1 : Nat) (v 2 : Nat) (v 3 : Nat) (v 4 : Nat) (v 5 : Nat) (v 6 : Nat) (v 7 : Nat) (v 8 : Nat) (v 9 : Nat) a1 a2 l1 l2 c1 c2 W (by have := hP.dp; omega) (by have := hP.fo; omega) (by have := hP.nd; omega) ⟨by omega, fun h => by have := hP.ofs.2.1 (by omega); omega, fun h => by have := hP.ofs.2.2 h; omega⟩ ⟨by omega, fun h => by have := hP.xo.2 h; omega⟩ hl1 hl2)
 have HOK := Lib.hid hP.ok
 have hbA : Below b0 w (w.alloc (.cells #[.int .i64 (v 1 : Nat), .int .i64 (v 2 : Nat), .int .i64 (v 3 : Nat), .int .i64 (v 4 : Nat), .int .u32 (v 5 : Nat), .int .u64 (v 6 : Nat), .int .u32 (v 7 : Nat), .int .i64 (v 8 : Nat), .int .i64 (v 9 : Nat), .slice a1 l1 c1, .slice a2 l2 c2] 76)) := by rw [← hb0]; exact (Below.refl _ _).alloc (Nat.le_refl _) _
 have hrA := World.alloc_heap_new w (.cells #[.int .i64 (v 1 : Nat), .int .i64 (v 2 : Nat), .int .i64 (v 3 : Nat), .int .i64 (v 4 : Nat), .int .u32 (v 5 : Nat), .int .u64 (v 6 : Nat), .int .u32 (v 7 : Nat), .int .i64 (v 8 : Nat), .int .i64 (v 9 : Nat), .slice a1 l1 c1, .slice a2 l2 c2] 76)
 rw [hb0] at hrA
 have hq : (((kz.length : Int) != 0) && ((kz.length : Int) != (v 2 : Nat))) = false := by rcases hk with h | h <;> simp [h]
 obtain ⟨q0, hq0⟩ : ∃ q, ((kz.length : Int) != 0) = q := ⟨_, rfl⟩
 obtain ⟨q1, hq1⟩ : ∃ q, ((kz.length : Int) != (v 2 : Nat)) = q := ⟨_, rfl⟩
 rw [hq0, hq1] at hq
 have HK_ := Lib.hid hK
 have HKL_ := Lib.hid hkl
 clear hP hl1 hl2 hK hkl hk hkc1 hkc2
 unfold parN parV
 unfold parV at HCK
 go_enter Tryz.func65, Tryz.ntmps65
 go_upto_region 1 with (fail)
 generalize w.alloc (.cells #[.int .i64 (v 1 : Nat), .int .i64 (v 2 : Nat), .int .i64 (v 3 : Nat), .int .i64 (v 4 : Nat), .int .u32 (v 5 : Nat), .int .u64 (v 6 : Nat), .int .u32 (v 7 : Nat), .int .i64 (v 8 : Nat), .int .i64 (v 9 : Nat), .slice a1 l1 c1, .slice a2 l2 c2] 76) = wA at *
 go_wp2_with ((with_reducible show wpList _ _ _ (Oper.mk _ (Op.load 76 _) _ _ _ _ :: _) _ _); refine wpList_load_row rfl 76 _ rfl b0 rfl _ _ _ _ hrA Tryz.underlying76 rfl (by kernel_rfl) ?_)
 refine (HCK.out wA).mono ?_; rintro e w1 ⟨⟨n, rfl, hn⟩, hb1⟩
 obtain rfl : n = 0 := hn.2 HOK.out
 clear hn
 have hr1 := rowStay hrA hb1
 have hs1 := hb1.size
 have hb0A : b0 < wA.heap.size := (Array.getElem?_eq_some_iff.1 hrA).1
 have hb01 : b0 < w1.heap.size := by omega
 have hbB : Below b0 w w1 := hbA.trans (hb1.mono (by omega))
 have c1k : w1.cell? ⟨b0, 1, none⟩ = some (.int .i64 (v 2 : Nat)) := cell_of_heap hr1 1
 have HBB := Lib.hid hbB
 have HR1 := Lib.hid hr1
 clear hb1 hbA hrA hbB hs1 hb0A HCK
 cases q0 <;> cases q1 <;> first | (exfalso; cases hq; done) | skip
 all_goals
  clear hq
  go_upto_region 7 with ((with_reducible show wpList _ _ _ (Oper.mk _ (Op.load 76 _) _ _ _ _ :: _) _ _); refine wpList_load_row rfl 76 _ rfl b0 rfl _ _ _ _ hr1 Tryz.underlying76 rfl (by kernel_rfl) ?_)
  change Code.wp _ _ _ _ (w1.alloc (.cells (rN (kB big) v (.slice a1 l1 c1) (.slice a2 l2 c2) (.slice ka kz.length kc) false (.slice none 0 0) 0) 125))
  have hN2 : rNode big (w1.alloc (.cells (rN (kB big) v (.slice a1 l1 c1) (.slice a2 l2 c2) (.slice ka kz.length kc) false (.slice none 0 0) 0) 125)) w1.heap.size v (.slice a1 l1 c1) (.slice a2 l2 c2) (.slice ka kz.length kc) false (.slice none 0 0) 0 := World.alloc_heap_new _ _
  have hb2 : Below b0 w (w1.alloc (.cells (rN (kB big) v (.slice a1 l1 c1) (.slice a2 l2 c2) (.slice ka kz.length kc) false (.slice none 0 0) 0) 125)) := HBB.out.alloc (by omega) _
  obtain ⟨np, hnp⟩ : ∃ np, w1.heap.size = np := ⟨_, rfl⟩
  rw [hnp] at hN2 hb01 ⊢
  generalize (w1.alloc (.cells (rN (kB big) v (.slice a1 l1 c1) (.slice a2 l2 c2) (.slice ka kz.length kc) false (.slice none 0 0) 0) 125)) = W2 at *
  have HN2 := Lib.hid hN2
  have HB2 := Lib.hid hb2
  have hks := (HK_.out.below (hb0 ▸ hb2))
  have HKS := Lib.hid hks
  have hs2 : np < W2.heap.size := (Array.getElem?_eq_some_iff.1 hN2).1
  clear hN2 hb2 hks c1k HR1 hr1 HBB
  go_wp2_with fail
  refine (refKeyed_ok big kz _ W2 HKS.out HKL_.out).mono ?_; rintro e w3 ⟨mv, rfl, ho, hb3⟩
  obtain ⟨ma, mn, mc, rfl⟩ := own_slice ho
  have hr3 := rowStay HN2.out hb3
  have c33 : w3.cell? ⟨np, 33, none⟩ = some (.slice none 0 0) := cell_of_heap hr3 33
  have f33 := frozen_of_row w3 np 33 _ _ hr3
  have hn3 : np < w3.heap.size := (Array.getElem?_eq_some_iff.1 hr3).1
  have hb4 : Below b0 w w3 := HB2.out.trans (hb3.mono (by omega))
  have hbn : But np w3 (w3.setCell ⟨np, 33, none⟩ (.slice ma mn mc)) := (But.refl np w3).set 33 _
  have ho5 : (w3.setCell ⟨np, 33, none⟩ (.slice ma mn mc)).ownsRow w.heap.size 5 1 (.slice ma mn mc) (keyZ (bB big) kz).length ((keyZ (bB big) kz).map encB) := by
   rcases ho.2 with ⟨h2, h3⟩ | ⟨g, cap, cur, h2, h3, h4, h5⟩
   ·exact ⟨ho.1, .inl ⟨h2, h3⟩⟩
   ·refine ⟨ho.1, .inr ⟨g, cap, cur, h2, by omega, ?_, h5⟩⟩
    rw [hbn.block g (Array.getElem?_eq_some_iff.1 h4).1 (by omega)]; exact h4
  have HF := Lib.hid (show rNode big (w3.setCell ⟨np, 33, none⟩ (.slice ma mn mc)) np v (.slice a1 l1 c1) (.slice a2 l2 c2) (.slice ka kz.length kc) false (.slice ma mn mc) 0 from rNode_msg hr3)
  have HO := Lib.hid ho5
  have HBF := Lib.hid (show Below b0 w (w3.setCell ⟨np, 33, none⟩ (.slice ma mn mc)) from hb4.setCell (by show b0 ≤ np; omega) _)
  clear ho hb3 hr3 hb4 hbn ho5
  go_wp2
  go_ret2
  exact ⟨np, _, rfl, by omega, HF.out, HO.out, by rw [hb0]; exact HBF.out⟩
end Go.Proofs.YtjogmckaakkomaaGreat
/- A block in the first form that is taken, by the reference. No condition. -/
namespace Go.Proofs.YtjogmckaakkomaaGreat
open Go.ChangeShapes Go.WideShapes Go.ChangeAt Go.RowKit Go.Joins Go.Shelf Go.Maps
attribute [local go_sem] Oper.semAt_some

/-- What the reference takes from a block: its cells. -/
def DecIs (big : Bool) (ext : Bool) (bs : List Int) (base : Nat) (w' : World) (cs : Array Value) (n : Int) : Prop :=
 cs.size = 11 ∧ cs.all (·.oneCell') = true ∧ (n = 0 → ∃ sa pe, Value.agg cs = parN (decV big ext bs) sa pe ∧ w'.ownsRow base 5 1 sa (saltZ big bs).length ((saltZ big bs).map encB) ∧ w'.ownsRow base 5 1 pe (persZ big bs).length ((persZ big bs).map encB))
def DecodedIs (big : Bool) (bs : List Int) (w : World) (e : Ending) (w' : World) : Prop :=
 (∃ cs n, e = .returned (.tuple #[.agg cs, .int .i64 n]) ∧ (n = 0 ↔ okB big bs) ∧ ∃ ext, (n = 0 → okD big ext bs) ∧ DecIs big ext bs w.heap.size w' cs n) ∧ Below w.heap.size w w'
theorem decIs_of {big ext : Bool} {bs : List Int} {base : Nat} {w' : World} {p : Value} {n : Int} (h1 : n = 0 → ∃ sa pe, p = parN (decV big ext bs) sa pe ∧ w'.ownsRow base 5 1 sa (saltZ big bs).length ((saltZ big bs).map encB) ∧ w'.ownsRow base 5 1 pe (persZ big bs).length ((persZ big bs).map encB)) (h2 : n ≠ 0 → p = .agg zeroP) :
  ∃ cs, p = .agg cs ∧ DecIs big ext bs base w' cs n := by
 by_cases hn : n = 0
 ·obtain ⟨sa, pe, rfl, h3, h4⟩ := h1 hn
  obtain ⟨a1, n1, c1, rfl⟩ := own_slice h3
  obtain ⟨a2, n2, c2, rfl⟩ := own_slice h4
  refine ⟨_, rfl, rfl, ?_, fun _ => ⟨_, _, rfl, h3, h4⟩⟩
  simp [Value.oneCell']
 ·exact ⟨zeroP, h2 hn, rfl, by simp [zeroP, Value.oneCell'], fun h => absurd h hn⟩
theorem DecIs.mono {big ext : Bool} {bs : List Int} {base b' : Nat} {w w' : World} {cs : Array Value} {n : Int} (h : DecIs big ext bs base w cs n) (hb : b' ≤ base) (hw : ∀ g, base ≤ g → g < w.heap.size → w'.heap[g]? = w.heap[g]?) : DecIs big ext bs b' w' cs n :=
 ⟨h.1, h.2.1, fun hn => by obtain ⟨sa, pe, e, h3, h4⟩ := h.2.2 hn; exact ⟨sa, pe, e, ownsRow_le (ownsRow_same' h3 hw) hb, ownsRow_le (ownsRow_same' h4 hw) hb⟩⟩
theorem own_setRow_other {W : World} {base n b : Nat} {v : Value} {xs : List Value} {c cs : Array Value} {T : TypeId} (h : W.ownsRow base 5 1 v n xs) (hr : W.heap[b]? = some (.cells c T (0, 0))) (hT : T ≠ 5) : (W.setRow b cs).ownsRow base 5 1 v n xs := by
 refine ⟨h.1, ?_⟩
 rcases h.2 with h2 | ⟨g, cap, cur, e, h1, h2, h3⟩
 ·exact .inl h2
 ·refine .inr ⟨g, cap, cur, e, h1, ?_, h3⟩
  rw [setRow_other _ _ _ _ ?_]; exact h2
  rintro rfl
  rw [hr] at h2
  simp only [Option.some.injEq, Obj.cells.injEq] at h2
  exact hT h2.2.1
theorem decis_set {big ext : Bool} {bs : List Int} {b0 b' : Nat} {W : World} {cs c ds : Array Value} {n : Int} (h : DecIs big ext bs b0 W cs n) (hr : W.heap[b0]? = some (.cells c 76 (0, 0))) (hb : b' ≤ b0) : DecIs big ext bs b' (W.setRow b0 ds) cs n :=
 ⟨h.1, h.2.1, fun hn => by obtain ⟨sa, pe, e, h3, h4⟩ := h.2.2 hn; exact ⟨sa, pe, e, ownsRow_le (own_setRow_other h3 hr (by decide)) hb, ownsRow_le (own_setRow_other h4 hr (by decide)) hb⟩⟩
set_option maxRecDepth 100000 in
set_option maxHeartbeats 4000000 in
theorem refDecoded_any (big : Bool) (bs : List Int) (bv : Value) (w : World) (hB : Hold w bv bs) :
  Calls Tryz.prog 44 #[.int .i64 (kB big), bv] w fun e w' => DecodedIs big bs w e w' := by
 obtain ⟨b0, hb0⟩ : ∃ b0, w.heap.size = b0 := ⟨_, rfl⟩
 have hbA : Below b0 w (w.alloc (.cells #[.int .i64 0, .int .i64 0, .int .i64 0, .int .i64 0, .int .u32 0, .int .u64 0, .int .u32 0, .int .i64 0, .int .i64 0, .slice none 0 0, .slice none 0 0] 76)) := by rw [← hb0]; exact (Below.refl _ _).alloc (Nat.le_refl _) _
 have hrA := World.alloc_heap_new w (.cells #[.int .i64 0, .int .i64 0, .int .i64 0, .int .i64 0, .int .u32 0, .int .u64 0, .int .u32 0, .int .i64 0, .int .i64 0, .slice none 0 0, .slice none 0 0] 76)
 rw [hb0] at hrA
 have HB := Lib.hid hB
 clear hB
 go_enter Tryz.func44, Tryz.ntmps44
 go_wp2_with fail
 generalize w.alloc (.cells #[.int .i64 0, .int .i64 0, .int .i64 0, .int .i64 0, .int .u32 0, .int .u64 0, .int .u32 0, .int .i64 0, .int .i64 0, .slice none 0 0, .slice none 0 0] 76) = wA at *
 refine (refDecode_any big false bs bv wA (HB.out.below (hb0 ▸ hbA))).mono ?_; rintro e w1 ⟨⟨pv, n1, rfl, hn1, hp1, hz1⟩, hb1⟩
 obtain ⟨cs, rfl, hcs⟩ := decIs_of hp1 hz1
 have hb0A : b0 < wA.heap.size := (Array.getElem?_eq_some_iff.1 hrA).1
 have hs1 := hb1.size
 have hr1 := rowStay hrA hb1
 have hbB : Below b0 w w1 := hbA.trans (hb1.mono (by omega))
 have hcs' := hcs.mono (b' := b0) (w' := w1) (by omega) (fun _ _ _ => rfl)
 have HN1 := Lib.hid hn1
 have HR1 := Lib.hid hr1
 have HBB := Lib.hid hbB
 have HCSR := Lib.hid hcs'
 clear hn1 hp1 hz1 hb1 hcs hr1 hbB hbA hrA hcs'
 go_upto_region 2 with ((with_reducible show wpList _ _ _ (Oper.mk none (Op.store 76 (Operand.tmp 6) _) _ _ _ _ :: _) _ _); refine wpList_store_row rfl 76 _ _ rfl w1.heap.size cs rfl rfl 76 _ (World.alloc_heap_new _ _) (by rw [HCSR.out.1]; kernel_rfl) (by rw [HCSR.out.1]; rfl) HCSR.out.2.1 ?_)
 refine letterW ?_
 intro W hW
 obtain ⟨p6, hp6⟩ : ∃ p, w1.heap.size = p := ⟨_, rfl⟩
 have r6 : W.heap[p6]? = some (.cells cs 76 (0, 0)) := by rw [hW, ← hp6]; exact setRow_heap _ _ _ _ _ _ (World.alloc_heap_new _ _)
 have r0 : W.heap[b0]? = some (.cells #[.int .i64 0, .int .i64 0, .int .i64 0, .int .i64 0, .int .u32 0, .int .u64 0, .int .u32 0, .int .i64 0, .int .i64 0, .slice none 0 0, .slice none 0 0] 76 (0, 0)) := by rw [hW]; exact (setRow_other (w1.alloc _) _ _ _ (by omega)).trans ((Below.heap_alloc _ _ _ (by omega)).trans HR1.out)
 have hbC : Below b0 w W := by rw [hW]; exact below_setRow (HBB.out.alloc (by omega) _) (by omega) _
 have hcW : DecIs big false bs b0 W cs n1 := HCSR.out.mono (Nat.le_refl _) (fun g hg hg2 => by rw [hW]; exact (setRow_other (w1.alloc _) _ _ _ (by omega)).trans (Below.heap_alloc _ _ _ hg2))
 rw [hp6]
 have hb06 : b0 < p6 := by omega
 have hWs : p6 < W.heap.size := (Array.getElem?_eq_some_iff.1 r6).1
 clear hW hp6 HR1 HBB HCSR hs1 hb0A
 have R6 := Lib.hid r6
 have R0 := Lib.hid r0
 have HBC := Lib.hid hbC
 have HCW := Lib.hid hcW
 clear r6 r0 hbC hcW
 by_cases hn : n1 = 0
 case pos =>
  subst hn
  go_wp2_with (first | ((with_reducible show wpList _ _ _ (Oper.mk (some 22) _ _ _ _ _ :: _) _ _); refine wpList_load_row rfl 76 _ rfl p6 rfl _ _ _ _ R6.out Tryz.underlying76 rfl (by rw [HCW.out.1]; kernel_rfl) ?_) | ((with_reducible show wpList _ _ _ (Oper.mk none (Op.store 76 (Operand.tmp 4) _) _ _ _ _ :: _) _ _); refine wpList_store_row rfl 76 _ _ rfl b0 cs rfl rfl 76 _ R0.out (by rw [HCW.out.1]; kernel_rfl) (by rw [HCW.out.1]; rfl) HCW.out.2.1 ?_))
  exact bodyPost_ret (results_row_tmp rfl _ _ b0 76 _ _ _ rfl (setRow_heap _ _ _ _ _ _ R0.out) Tryz.underlying76 rfl (by rw [HCW.out.1]; kernel_rfl)) rfl (show DecodedIs _ _ _ _ _ from ⟨⟨cs, 0, rfl, ⟨fun _ => .inl (HN1.out.1 (by trivial)), fun _ => rfl⟩, false, fun _ => HN1.out.1 (by trivial), decis_set HCW.out R0.out (by omega)⟩, by rw [hb0]; exact below_setRow HBC.out (Nat.le_refl _) _⟩)
 have hq : (n1 != 0) = true := by rw [bne_iff_ne]; exact hn
 have HQ := Lib.hid hn
 clear hn
 go_wp2_with fail
 refine (refDecode_any big true bs bv W (HB.out.below (hb0 ▸ HBC.out))).mono ?_; rintro e w2 ⟨⟨pv, n2, rfl, hn2, hp2, hz2⟩, hb2⟩
 obtain ⟨cs2, rfl, hcs2⟩ := decIs_of hp2 hz2
 have hs2 := hb2.size
 have k6 := rowStay R6.out hb2
 have k0 := rowStay R0.out hb2
 have hbD : Below b0 w w2 := HBC.out.trans (hb2.mono (by omega))
 have HC2 := Lib.hid hcs2
 have HN2 := Lib.hid hn2
 have HBD := Lib.hid hbD
 have K6 := Lib.hid k6
 have K0 := Lib.hid k0
 clear hn2 hp2 hz2 hb2 hcs2 k6 k0 hbD hq
 have K6b := Lib.hid (setRow_heap w2 p6 _ cs2 _ _ K6.out)
 have K0b := Lib.hid ((setRow_other w2 p6 b0 cs2 (by omega)).trans K0.out)
 have HC3 := Lib.hid (show DecIs big true bs b0 (w2.setRow p6 cs2) cs2 n2 from HC2.out.mono (by omega) (fun g hg _ => setRow_other _ _ _ _ (by omega)))
 go_wp2_with (first | ((with_reducible show wpList _ _ _ (Oper.mk none (Op.store 76 (Operand.tmp 6) _) _ _ _ _ :: _) _ _); refine wpList_store_row rfl 76 _ _ rfl p6 cs2 rfl rfl 76 _ K6.out (by rw [HC2.out.1]; kernel_rfl) (by rw [HC2.out.1, HCW.out.1]) HC2.out.2.1 ?_) | ((with_reducible show wpList _ _ _ (Oper.mk (some 22) _ _ _ _ _ :: _) _ _); refine wpList_load_row rfl 76 _ rfl p6 rfl _ _ _ _ K6b.out Tryz.underlying76 rfl (by rw [HC2.out.1]; kernel_rfl) ?_) | ((with_reducible show wpList _ _ _ (Oper.mk none (Op.store 76 (Operand.tmp 4) _) _ _ _ _ :: _) _ _); refine wpList_store_row rfl 76 _ _ rfl b0 cs2 rfl rfl 76 _ K0b.out (by rw [HC2.out.1]; kernel_rfl) (by rw [HC2.out.1]; rfl) HC2.out.2.1 ?_))
 exact bodyPost_ret (results_row_tmp rfl _ _ b0 76 _ _ _ rfl (setRow_heap _ _ _ _ _ _ K0b.out) Tryz.underlying76 rfl (by rw [HC2.out.1]; kernel_rfl)) rfl (show DecodedIs _ _ _ _ _ from ⟨⟨cs2, n2, rfl, ⟨fun h => .inr (HN2.out.1 h), fun h => HN2.out.2 (h.resolve_left (fun h => HQ.out (HN1.out.2 h)))⟩, true, fun h => HN2.out.1 h, decis_set HC3.out K0b.out (by omega)⟩, by rw [hb0]; exact below_setRow (below_setRow HBD.out (by omega) _) (Nat.le_refl _) _⟩)
end Go.Proofs.YtjogmckaakkomaaGreat
