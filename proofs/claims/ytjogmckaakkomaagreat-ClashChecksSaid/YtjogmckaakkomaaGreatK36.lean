/- A node's output's first bytes; a node is made. No condition. -/
import Derived.Test.YtjogmckaakkomaaGreatK35
namespace Go.Proofs.YtjogmckaakkomaaGreat
open Go.ChangeShapes Go.WideShapes Go.ChangeAt Go.RowKit Go.Joins Go.Shelf Go.Maps
attribute [local go_sem] Oper.semAt_some

/-- Bytes in memory of their own. -/
def Fresh (base : Nat) (W : World) (v : Value) (zs : List Int) : Prop :=
 (zs = [] ∧ v = .slice none 0 0) ∨ ∃ g cap cur, v = .slice (some ⟨g, 0, none⟩) zs.length cap ∧ base ≤ g ∧ W.heap[g]? = some (.cells cur 5 (0, 0)) ∧ zs.length ≤ cap ∧ cap ≤ cur.size ∧ cap ≤ maxLen ∧ cur.toList.take zs.length = zs.map encB
theorem Fresh.below {base : Nat} {W W' : World} {v : Value} {zs : List Int} (h : Fresh base W v zs) (hb : Below W.heap.size W W') : Fresh base W' v zs := by
 rcases h with h | ⟨g, cap, cur, e, h1, h2, h3⟩
 ·exact .inl h
 ·exact .inr ⟨g, cap, cur, e, h1, rowStay h2 hb, h3⟩
theorem Fresh.le {base b' : Nat} {W : World} {v : Value} {zs : List Int} (h : Fresh base W v zs) (hb : b' ≤ base) : Fresh b' W v zs := by
 rcases h with h | ⟨g, cap, cur, e, h1, h2⟩
 ·exact .inl h
 ·exact .inr ⟨g, cap, cur, e, Nat.le_trans hb h1, h2⟩
theorem Fresh.hold {base : Nat} {W : World} {v : Value} {zs : List Int} (h : Fresh base W v zs) (hz : ∀ z ∈ zs, 0 ≤ z ∧ z ≤ 255) : Hold W v zs := by
 refine ⟨hz, ?_⟩
 rcases h with h | ⟨g, cap, cur, rfl, h1, h2, h3, h4, h5, h6⟩
 ·exact .inl h
 ·refine .inr ⟨⟨g, 0, none⟩, cap, rfl, h3, h5, .inr ⟨g, 0, rfl, (Array.getElem?_eq_some_iff.1 h2).1, fun i hi => ?_⟩⟩
  have e := congrArg (fun l : List Value => l[i]?) h6
  simp only [List.getElem?_take, hi, if_true, List.getElem?_map, Array.getElem?_toList] at e
  rw [Nat.zero_add, cell_of_heap h2 i, e]
  simp [encB, nthz, List.getD_eq_getElem?_getD, hi]
/-- The first m of fresh bytes, with no room behind them. -/
theorem fresh_take {base g c m : Nat} {W : World} {zs : List Int} (h : W.ownsRow base 5 1 (.slice (some ⟨g, 0, none⟩) zs.length c) zs.length (zs.map encB)) (hm : m ≤ zs.length) : Fresh base W (.slice (some ⟨g, 0, none⟩) m m) (zs.take m) := by
 obtain ⟨cur, h2, h3, h4, h5, h6, h7⟩ := own_row h
 have e : (zs.take m).length = m := by simp [List.length_take, Nat.min_eq_left hm]
 refine .inr ⟨g, m, cur, by rw [e], h5, h2, by omega, by omega, by omega, ?_⟩
 rw [e, List.map_take, ← h4, List.take_take, Nat.min_eq_left hm]
set_option maxRecDepth 100000 in
theorem none_ok (big : Bool) (np p : Nat) (kind dg wr : Int) (la : Bool) (bv kv : Value) (w : World) (hrow : w.heap[np]? = some (.cells (nodeC kind dg bv kv la wr (.iface (phT big) (.pointer (some ⟨p, 0, none⟩)))) 84 (0, 0))) :
  Calls Tryz.prog 62 #[.pointer (some ⟨np, 0, none⟩)] w fun e w' => e = .returned (.bool false) ∧ w' = w := by
 have c6 : w.cell? ⟨np, 6, none⟩ = some (.iface (phT big) (.pointer (some ⟨p, 0, none⟩))) := cell_of_heap hrow 6
 have hnp : np < w.heap.size := (Array.getElem?_eq_some_iff.1 hrow).1
 clear hrow
 go_enter Tryz.func62, Tryz.ntmps62
 go_wp2
 go_ret
 exact ⟨rfl, rfl⟩
theorem own_base0 {W : World} {B n : Nat} {v : Value} {xs : List Value} (h : W.ownsRow B 5 1 v n xs) : W.ownsRow 0 5 1 v n xs := ownsRow_le h (Nat.zero_le _)
set_option maxRecDepth 100000 in
set_option maxHeartbeats 2000000 in
theorem nodeOut_no_true (np p : Nat) (dg wr m : Int) (la : Bool) (bv kv : Value) (w : World) (hrow : w.heap[np]? = some (.cells (nodeC 1 dg bv kv la wr (.iface 153 (.pointer (some ⟨p, 0, none⟩)))) 84 (0, 0))) (hm : m < 1 ∨ 64 < m) :
  Calls Tryz.prog 43 #[.pointer (some ⟨np, 0, none⟩), .int .i64 m] w fun e w' => e = .returned (.tuple #[.slice none 0 0, .int .i64 1]) ∧ Below w.heap.size w w' := by
 have hN := fun (W : World) h => none_ok true np p 1 dg wr la bv kv W h
 have c0 : w.cell? ⟨np, 0, none⟩ = some (.int .i64 1) := cell_of_heap hrow 0
 have hnp : np < w.heap.size := (Array.getElem?_eq_some_iff.1 hrow).1
 have HN := Lib.hid (hN w hrow)
 clear hN hrow
 by_cases h1 : m < 1
 case pos =>
  clear hm
  go_enter Tryz.func43, Tryz.ntmps43
  go_wp2_with fail
  refine HN.out.mono ?_; rintro e w1 ⟨rfl, hw⟩
  rw [hw]; clear hw
  go_wp2
  go_ret2
  exact ⟨rfl, Below.refl _ _⟩
 have h2 : 64 < m := by omega
 clear hm
 go_enter Tryz.func43, Tryz.ntmps43
 go_wp2_with fail
 refine HN.out.mono ?_; rintro e w1 ⟨rfl, hw⟩
 rw [hw]; clear hw
 go_wp2_with fail
 refine (blockOf_ok true _).mono ?_; rintro e w1 ⟨rfl, hw⟩
 rw [hw]; clear hw
 rw [show ((bB true : Nat) : Int) = 128 from rfl]
 go_wp2
 go_ret2
 exact ⟨rfl, Below.refl _ _⟩
set_option maxRecDepth 100000 in
set_option maxHeartbeats 4000000 in
theorem nodeOut_true (h0 msg : List Int) (hh : Words 64 8 h0) (hm : ∀ z ∈ msg, 0 ≤ z ∧ z ≤ 255) (np p m : Nat) (dg wr : Int) (la : Bool) (bv kv hv : Value) (w : World) (hrow : w.heap[np]? = some (.cells (nodeC 1 dg bv kv la wr (.iface 153 (.pointer (some ⟨p, 0, none⟩)))) 84 (0, 0))) (hE : EngAt true w p hv h0 msg) (hlen : (msg.length : Int) ≤ 281474976710656) (hm1 : 1 ≤ m) (hm2 : m ≤ 64) :
  Calls Tryz.prog 43 #[.pointer (some ⟨np, 0, none⟩), .int .i64 (m : Nat)] w fun e w' => (∃ v, e = .returned (.tuple #[v, .int .i64 0]) ∧ Fresh w.heap.size w' v ((outZ true h0 msg la).take m)) ∧ Below w.heap.size w w' := by
 have hN := none_ok true np p 1 dg wr la bv kv w hrow
 have c0 : w.cell? ⟨np, 0, none⟩ = some (.int .i64 1) := cell_of_heap hrow 0
 have hnp : np < w.heap.size := (Array.getElem?_eq_some_iff.1 hrow).1
 have HN := Lib.hid hN
 have HROW := Lib.hid hrow
 have HO := Lib.hid (fun (W : World) (h : EngAt true W p hv h0 msg) => out_true h0 msg la hh hm p hv W h hlen)
 have HE := Lib.hid hE
 have hol := outZ_length true h0 msg la
 generalize outZ true h0 msg la = Z at *
 have HOL := Lib.hid (show Z.length = 64 from hol)
 clear hN hrow hE hh hm hlen hol
 have hm3 : 1 ≤ (m : Int) ∧ (m : Int) ≤ 64 := by omega
 obtain ⟨hm3, hm4⟩ := hm3
 go_enter Tryz.func43, Tryz.ntmps43
 go_wp2_with fail
 refine HN.out.mono ?_; rintro e w1 ⟨rfl, hw⟩
 rw [hw]; clear hw
 go_wp2_with fail
 refine (blockOf_ok true _).mono ?_; rintro e w1 ⟨rfl, hw⟩
 rw [hw]; clear hw
 rw [show ((bB true : Nat) : Int) = 128 from rfl]
 go_upto_region 5 with (fail)
 clear c0
 refine wp_region_below (n := 16) (w0 := w) (B := w.heap.size) [20, 21, 22, 23, 24, 25, 26, 27, 28, 29, 30, 31, 32, 33, 4, 5] [(vl (.pointer (some ⟨np, 0, none⟩))), (vl (.pointer (some ⟨np, 0, none⟩))), (vl (.pointer (some ⟨np, 6, none⟩))), (vl (.iface 153 (.pointer (some ⟨p, 0, none⟩)))), (vl (.pointer (some ⟨np, 0, none⟩))), (vl (.pointer (some ⟨np, 0, none⟩))), (vl (.pointer (some ⟨np, 4, none⟩))), (vl (.bool la)), (vl (.iface 153 (.pointer (some ⟨p, 0, none⟩)))), (vl (.iface 153 (.pointer (some ⟨p, 0, none⟩)))), (fun u W => W.ownsRow w.heap.size 5 1 u 64 (Z.map encB)), (vl (.int .i64 (m : Nat))), (vl (.int .i64 (m : Nat))), (fun u W => Fresh w.heap.size W u (Z.take m)), (fun u W => Fresh w.heap.size W u (Z.take m)), (vl (.int .i64 0))] (by dsimp only [List.take]) (by dsimp only [List.drop]) rfl (by rfl) (by decide) (by kernel_rfl) (by rfl) (by kernel_rfl) (by kernel_rfl) (Below.refl _ _).drew (Nat.le_refl _) ?_ ?_ ?_
 ·exact ⟨kV, kV, kV, kV, kV, kV, kV, kV, kV, kV, (fun _ _ _ h hb => ownsRow_same' h (fun g _ hg => hb.block g hg)), kV, kV, (fun _ _ _ h hb => h.below hb), (fun _ _ _ h hb => h.below hb), kV, trivial⟩
 ·refine eachO_8 ?_ ?_ ?_ ?_ ?_ ?_ ?_ ?_ (eachO_8 ?_ ?_ ?_ ?_ ?_ ?_ ?_ ?_ (eachO_nil))
  ·intro A x W hA hW hBW hdep K hK
   have a0 := hA.2 0 (by decide)
   conv at a0 => rhs; whnf
   clear hdep hA
   go_simp
   exact hK _ _ BR rfl
  ·intro A x W hA hW hBW hdep K hK
   have g20 := gv hA hdep 0 20
   clear hdep hA
   go_simp
   exact hK _ _ BR rfl
  ·intro A x W hA hW hBW hdep K hK
   have g21 := gv hA hdep 1 21
   clear hdep hA
   go_simp
   exact hK _ _ BR rfl
  ·intro A x W hA hW hBW hdep K hK
   have g22 := gv hA hdep 2 22
   clear hdep hA
   have g0 := rowStay HROW.out hW
   have c0 : W.cell? ⟨np, 6, none⟩ = some (.iface 153 (.pointer (some ⟨p, 0, none⟩))) := cell_of_heap g0 6
   go_simp
   exact hK _ _ BR rfl
  ·intro A x W hA hW hBW hdep K hK
   have a0 := hA.2 0 (by decide)
   conv at a0 => rhs; whnf
   clear hdep hA
   go_simp
   exact hK _ _ BR rfl
  ·intro A x W hA hW hBW hdep K hK
   have g24 := gv hA hdep 4 24
   clear hdep hA
   go_simp
   exact hK _ _ BR rfl
  ·intro A x W hA hW hBW hdep K hK
   have g25 := gv hA hdep 5 25
   clear hdep hA
   go_simp
   exact hK _ _ BR rfl
  ·intro A x W hA hW hBW hdep K hK
   have g26 := gv hA hdep 6 26
   clear hdep hA
   have g0 := rowStay HROW.out hW
   have c0 : W.cell? ⟨np, 4, none⟩ = some (.bool la) := cell_of_heap g0 4
   go_simp
   exact hK _ _ BR rfl
  ·intro A x W hA hW hBW hdep K hK
   have g23 := gv hA hdep 3 23
   clear hdep hA
   go_simp
   exact hK _ _ BR rfl
  ·intro A x W hA hW hBW hdep K hK
   have g23 := gv hA hdep 3 23
   have g28 := gv hA hdep 8 28
   clear hdep hA
   go_simp
   exact hK _ _ BR rfl
  ·intro A x W hA hW hBW hdep K hK
   have g29 := gv hA hdep 9 29
   have g27 := gv hA hdep 7 27
   clear hdep hA
   go_simp
   refine upon_method (f := 173) (by kernel_rfl) ?_
   go_simp
   refine (HO.out _ (eng_below HE.out hW)).mono ?_; rintro e w' ⟨u, rfl, ho, hb⟩; exact hK _ _ hb (ownsRow_le ho hBW)
  ·intro A x W hA hW hBW hdep K hK
   have a1 := hA.2 1 (by decide)
   conv at a1 => rhs; whnf
   clear hdep hA
   go_simp
   exact hK _ _ BR rfl
  ·intro A x W hA hW hBW hdep K hK
   have a1 := hA.2 1 (by decide)
   conv at a1 => rhs; whnf
   clear hdep hA
   go_simp
   exact hK _ _ BR rfl
  ·intro A x W hA hW hBW hdep K hK
   have g30 : (fun u W => W.ownsRow w.heap.size 5 1 u 64 (Z.map encB)) (x 30) W := hdep ⟨10, .data⟩ (by simp) rfl _ rfl
   have a30 : A.tmps.getD 30 undef = x 30 := hA.1 30 (by decide)
   have g31 := gv hA hdep 11 31
   have g32 := gv hA hdep 12 32
   clear hdep hA
   obtain ⟨s1, s2, s3, e30⟩ := own_slice g30
   rw [e30] at g30 a30
   obtain rfl : s2 = 64 := own_len g30
   obtain ⟨gg, rfl⟩ := own_some (own_base0 g30) (by decide)
   obtain ⟨cu, -, -, -, -, hk1, hk2⟩ := own_row g30
   have hk3 : (s3 : Int) ≤ 9223372036854775807 := by unfold maxLen at hk2; omega
   have hk4 : (m : Int) ≤ s3 := by omega
   have hk5 : 64 ≤ (s3 : Int) := by omega
   have hft := fresh_take (m := m) (zs := Z) (c := s3) (by rw [HOL.out]; exact g30) (by rw [HOL.out]; exact hm2)
   have HFT := Lib.hid hft
   clear hft
   go_simp
   exact hK _ _ (Below.refl _ _) HFT.out
  ·intro A x W hA hW hBW hdep K hK
   have g33 : (fun u W => Fresh w.heap.size W u (Z.take m)) (x 33) W := hdep ⟨13, .data⟩ (by simp) rfl _ rfl
   have a33 : A.tmps.getD 33 undef = x 33 := hA.1 33 (by decide)
   clear hdep hA
   go_simp
   exact hK _ _ (Below.refl _ _) (a33 ▸ g33)
  ·intro A x W hA hW hBW hdep K hK
   clear hdep hA
   go_simp
   exact hK _ _ BR rfl
 intro x W hW hBW hall
 obtain ⟨e20, e21, e22, e23, e24, e25, e26, e27, e28, e29, e30, e31, e32, e33, e4, e5, -⟩ := hall
 change x 20 = (.pointer (some ⟨np, 0, none⟩) : Value) at e20
 change x 21 = (.pointer (some ⟨np, 0, none⟩) : Value) at e21
 change x 22 = (.pointer (some ⟨np, 6, none⟩) : Value) at e22
 change x 23 = (.iface 153 (.pointer (some ⟨p, 0, none⟩)) : Value) at e23
 change x 24 = (.pointer (some ⟨np, 0, none⟩) : Value) at e24
 change x 25 = (.pointer (some ⟨np, 0, none⟩) : Value) at e25
 change x 26 = (.pointer (some ⟨np, 4, none⟩) : Value) at e26
 change x 27 = (.bool la : Value) at e27
 change x 28 = (.iface 153 (.pointer (some ⟨p, 0, none⟩)) : Value) at e28
 change x 29 = (.iface 153 (.pointer (some ⟨p, 0, none⟩)) : Value) at e29
 change (fun u W => W.ownsRow w.heap.size 5 1 u 64 (Z.map encB)) (x 30) W at e30
 change x 31 = (.int .i64 (m : Nat) : Value) at e31
 change x 32 = (.int .i64 (m : Nat) : Value) at e32
 change (fun u W => Fresh w.heap.size W u (Z.take m)) (x 33) W at e33
 change (fun u W => Fresh w.heap.size W u (Z.take m)) (x 4) W at e4
 change x 5 = (.int .i64 0 : Value) at e5
 refine thenTail_nil ?_
 simp only [lay, Act.put, List.setIfInBounds_toArray, List.set_cons_zero, List.set_cons_succ, e20, e21, e22, e23, e24, e25, e26, e27, e28, e29, e31, e32, e5]
 clear e20 e21 e22 e23 e24 e25 e26 e27 e28 e29 e31 e32 e5
 have E4 := Lib.hid e4
 have HW := Lib.hid hW
 clear e4 e30 e33 hW
 go_wp2
 go_ret2
 exact ⟨⟨_, rfl, E4.out⟩, HW.out⟩
set_option maxRecDepth 100000 in
set_option maxHeartbeats 2000000 in
theorem nodeOut_no_false (np p : Nat) (dg wr m : Int) (la : Bool) (bv kv : Value) (w : World) (hrow : w.heap[np]? = some (.cells (nodeC 2 dg bv kv la wr (.iface 163 (.pointer (some ⟨p, 0, none⟩)))) 84 (0, 0))) (hm : m < 1 ∨ 32 < m) :
  Calls Tryz.prog 43 #[.pointer (some ⟨np, 0, none⟩), .int .i64 m] w fun e w' => e = .returned (.tuple #[.slice none 0 0, .int .i64 1]) ∧ Below w.heap.size w w' := by
 have hN := fun (W : World) h => none_ok false np p 2 dg wr la bv kv W h
 have c0 : w.cell? ⟨np, 0, none⟩ = some (.int .i64 2) := cell_of_heap hrow 0
 have hnp : np < w.heap.size := (Array.getElem?_eq_some_iff.1 hrow).1
 have HN := Lib.hid (hN w hrow)
 clear hN hrow
 by_cases h1 : m < 1
 case pos =>
  clear hm
  go_enter Tryz.func43, Tryz.ntmps43
  go_wp2_with fail
  refine HN.out.mono ?_; rintro e w1 ⟨rfl, hw⟩
  rw [hw]; clear hw
  go_wp2
  go_ret2
  exact ⟨rfl, Below.refl _ _⟩
 have h2 : 32 < m := by omega
 clear hm
 go_enter Tryz.func43, Tryz.ntmps43
 go_wp2_with fail
 refine HN.out.mono ?_; rintro e w1 ⟨rfl, hw⟩
 rw [hw]; clear hw
 go_wp2_with fail
 refine (blockOf_ok false _).mono ?_; rintro e w1 ⟨rfl, hw⟩
 rw [hw]; clear hw
 rw [show ((bB false : Nat) : Int) = 64 from rfl]
 go_wp2
 go_ret2
 exact ⟨rfl, Below.refl _ _⟩
set_option maxRecDepth 100000 in
set_option maxHeartbeats 4000000 in
theorem nodeOut_false (h0 msg : List Int) (hh : Words 32 8 h0) (hm : ∀ z ∈ msg, 0 ≤ z ∧ z ≤ 255) (np p m : Nat) (dg wr : Int) (la : Bool) (bv kv hv : Value) (w : World) (hrow : w.heap[np]? = some (.cells (nodeC 2 dg bv kv la wr (.iface 163 (.pointer (some ⟨p, 0, none⟩)))) 84 (0, 0))) (hE : EngAt false w p hv h0 msg) (hlen : (msg.length : Int) ≤ 281474976710656) (hm1 : 1 ≤ m) (hm2 : m ≤ 32) :
  Calls Tryz.prog 43 #[.pointer (some ⟨np, 0, none⟩), .int .i64 (m : Nat)] w fun e w' => (∃ v, e = .returned (.tuple #[v, .int .i64 0]) ∧ Fresh w.heap.size w' v ((outZ false h0 msg la).take m)) ∧ Below w.heap.size w w' := by
 have hN := none_ok false np p 2 dg wr la bv kv w hrow
 have c0 : w.cell? ⟨np, 0, none⟩ = some (.int .i64 2) := cell_of_heap hrow 0
 have hnp : np < w.heap.size := (Array.getElem?_eq_some_iff.1 hrow).1
 have HN := Lib.hid hN
 have HROW := Lib.hid hrow
 have HO := Lib.hid (fun (W : World) (h : EngAt false W p hv h0 msg) => out_false h0 msg la hh hm p hv W h hlen)
 have HE := Lib.hid hE
 have hol := outZ_length false h0 msg la
 generalize outZ false h0 msg la = Z at *
 have HOL := Lib.hid (show Z.length = 32 from hol)
 clear hN hrow hE hh hm hlen hol
 have hm3 : 1 ≤ (m : Int) ∧ (m : Int) ≤ 32 := by omega
 obtain ⟨hm3, hm4⟩ := hm3
 go_enter Tryz.func43, Tryz.ntmps43
 go_wp2_with fail
 refine HN.out.mono ?_; rintro e w1 ⟨rfl, hw⟩
 rw [hw]; clear hw
 go_wp2_with fail
 refine (blockOf_ok false _).mono ?_; rintro e w1 ⟨rfl, hw⟩
 rw [hw]; clear hw
 rw [show ((bB false : Nat) : Int) = 64 from rfl]
 go_upto_region 5 with (fail)
 clear c0
 refine wp_region_below (n := 16) (w0 := w) (B := w.heap.size) [20, 21, 22, 23, 24, 25, 26, 27, 28, 29, 30, 31, 32, 33, 4, 5] [(vl (.pointer (some ⟨np, 0, none⟩))), (vl (.pointer (some ⟨np, 0, none⟩))), (vl (.pointer (some ⟨np, 6, none⟩))), (vl (.iface 163 (.pointer (some ⟨p, 0, none⟩)))), (vl (.pointer (some ⟨np, 0, none⟩))), (vl (.pointer (some ⟨np, 0, none⟩))), (vl (.pointer (some ⟨np, 4, none⟩))), (vl (.bool la)), (vl (.iface 163 (.pointer (some ⟨p, 0, none⟩)))), (vl (.iface 163 (.pointer (some ⟨p, 0, none⟩)))), (fun u W => W.ownsRow w.heap.size 5 1 u 32 (Z.map encB)), (vl (.int .i64 (m : Nat))), (vl (.int .i64 (m : Nat))), (fun u W => Fresh w.heap.size W u (Z.take m)), (fun u W => Fresh w.heap.size W u (Z.take m)), (vl (.int .i64 0))] (by dsimp only [List.take]) (by dsimp only [List.drop]) rfl (by rfl) (by decide) (by kernel_rfl) (by rfl) (by kernel_rfl) (by kernel_rfl) (Below.refl _ _).drew (Nat.le_refl _) ?_ ?_ ?_
 ·exact ⟨kV, kV, kV, kV, kV, kV, kV, kV, kV, kV, (fun _ _ _ h hb => ownsRow_same' h (fun g _ hg => hb.block g hg)), kV, kV, (fun _ _ _ h hb => h.below hb), (fun _ _ _ h hb => h.below hb), kV, trivial⟩
 ·refine eachO_8 ?_ ?_ ?_ ?_ ?_ ?_ ?_ ?_ (eachO_8 ?_ ?_ ?_ ?_ ?_ ?_ ?_ ?_ (eachO_nil))
  ·intro A x W hA hW hBW hdep K hK
   have a0 := hA.2 0 (by decide)
   conv at a0 => rhs; whnf
   clear hdep hA
   go_simp
   exact hK _ _ BR rfl
  ·intro A x W hA hW hBW hdep K hK
   have g20 := gv hA hdep 0 20
   clear hdep hA
   go_simp
   exact hK _ _ BR rfl
  ·intro A x W hA hW hBW hdep K hK
   have g21 := gv hA hdep 1 21
   clear hdep hA
   go_simp
   exact hK _ _ BR rfl
  ·intro A x W hA hW hBW hdep K hK
   have g22 := gv hA hdep 2 22
   clear hdep hA
   have g0 := rowStay HROW.out hW
   have c0 : W.cell? ⟨np, 6, none⟩ = some (.iface 163 (.pointer (some ⟨p, 0, none⟩))) := cell_of_heap g0 6
   go_simp
   exact hK _ _ BR rfl
  ·intro A x W hA hW hBW hdep K hK
   have a0 := hA.2 0 (by decide)
   conv at a0 => rhs; whnf
   clear hdep hA
   go_simp
   exact hK _ _ BR rfl
  ·intro A x W hA hW hBW hdep K hK
   have g24 := gv hA hdep 4 24
   clear hdep hA
   go_simp
   exact hK _ _ BR rfl
  ·intro A x W hA hW hBW hdep K hK
   have g25 := gv hA hdep 5 25
   clear hdep hA
   go_simp
   exact hK _ _ BR rfl
  ·intro A x W hA hW hBW hdep K hK
   have g26 := gv hA hdep 6 26
   clear hdep hA
   have g0 := rowStay HROW.out hW
   have c0 : W.cell? ⟨np, 4, none⟩ = some (.bool la) := cell_of_heap g0 4
   go_simp
   exact hK _ _ BR rfl
  ·intro A x W hA hW hBW hdep K hK
   have g23 := gv hA hdep 3 23
   clear hdep hA
   go_simp
   exact hK _ _ BR rfl
  ·intro A x W hA hW hBW hdep K hK
   have g23 := gv hA hdep 3 23
   have g28 := gv hA hdep 8 28
   clear hdep hA
   go_simp
   exact hK _ _ BR rfl
  ·intro A x W hA hW hBW hdep K hK
   have g29 := gv hA hdep 9 29
   have g27 := gv hA hdep 7 27
   clear hdep hA
   go_simp
   refine upon_method (f := 179) (by kernel_rfl) ?_
   go_simp
   refine (HO.out _ (eng_below HE.out hW)).mono ?_; rintro e w' ⟨u, rfl, ho, hb⟩; exact hK _ _ hb (ownsRow_le ho hBW)
  ·intro A x W hA hW hBW hdep K hK
   have a1 := hA.2 1 (by decide)
   conv at a1 => rhs; whnf
   clear hdep hA
   go_simp
   exact hK _ _ BR rfl
  ·intro A x W hA hW hBW hdep K hK
   have a1 := hA.2 1 (by decide)
   conv at a1 => rhs; whnf
   clear hdep hA
   go_simp
   exact hK _ _ BR rfl
  ·intro A x W hA hW hBW hdep K hK
   have g30 : (fun u W => W.ownsRow w.heap.size 5 1 u 32 (Z.map encB)) (x 30) W := hdep ⟨10, .data⟩ (by simp) rfl _ rfl
   have a30 : A.tmps.getD 30 undef = x 30 := hA.1 30 (by decide)
   have g31 := gv hA hdep 11 31
   have g32 := gv hA hdep 12 32
   clear hdep hA
   obtain ⟨s1, s2, s3, e30⟩ := own_slice g30
   rw [e30] at g30 a30
   obtain rfl : s2 = 32 := own_len g30
   obtain ⟨gg, rfl⟩ := own_some (own_base0 g30) (by decide)
   obtain ⟨cu, -, -, -, -, hk1, hk2⟩ := own_row g30
   have hk3 : (s3 : Int) ≤ 9223372036854775807 := by unfold maxLen at hk2; omega
   have hk4 : (m : Int) ≤ s3 := by omega
   have hk5 : 32 ≤ (s3 : Int) := by omega
   have hft := fresh_take (m := m) (zs := Z) (c := s3) (by rw [HOL.out]; exact g30) (by rw [HOL.out]; exact hm2)
   have HFT := Lib.hid hft
   clear hft
   go_simp
   exact hK _ _ (Below.refl _ _) HFT.out
  ·intro A x W hA hW hBW hdep K hK
   have g33 : (fun u W => Fresh w.heap.size W u (Z.take m)) (x 33) W := hdep ⟨13, .data⟩ (by simp) rfl _ rfl
   have a33 : A.tmps.getD 33 undef = x 33 := hA.1 33 (by decide)
   clear hdep hA
   go_simp
   exact hK _ _ (Below.refl _ _) (a33 ▸ g33)
  ·intro A x W hA hW hBW hdep K hK
   clear hdep hA
   go_simp
   exact hK _ _ BR rfl
 intro x W hW hBW hall
 obtain ⟨e20, e21, e22, e23, e24, e25, e26, e27, e28, e29, e30, e31, e32, e33, e4, e5, -⟩ := hall
 change x 20 = (.pointer (some ⟨np, 0, none⟩) : Value) at e20
 change x 21 = (.pointer (some ⟨np, 0, none⟩) : Value) at e21
 change x 22 = (.pointer (some ⟨np, 6, none⟩) : Value) at e22
 change x 23 = (.iface 163 (.pointer (some ⟨p, 0, none⟩)) : Value) at e23
 change x 24 = (.pointer (some ⟨np, 0, none⟩) : Value) at e24
 change x 25 = (.pointer (some ⟨np, 0, none⟩) : Value) at e25
 change x 26 = (.pointer (some ⟨np, 4, none⟩) : Value) at e26
 change x 27 = (.bool la : Value) at e27
 change x 28 = (.iface 163 (.pointer (some ⟨p, 0, none⟩)) : Value) at e28
 change x 29 = (.iface 163 (.pointer (some ⟨p, 0, none⟩)) : Value) at e29
 change (fun u W => W.ownsRow w.heap.size 5 1 u 32 (Z.map encB)) (x 30) W at e30
 change x 31 = (.int .i64 (m : Nat) : Value) at e31
 change x 32 = (.int .i64 (m : Nat) : Value) at e32
 change (fun u W => Fresh w.heap.size W u (Z.take m)) (x 33) W at e33
 change (fun u W => Fresh w.heap.size W u (Z.take m)) (x 4) W at e4
 change x 5 = (.int .i64 0 : Value) at e5
 refine thenTail_nil ?_
 simp only [lay, Act.put, List.setIfInBounds_toArray, List.set_cons_zero, List.set_cons_succ, e20, e21, e22, e23, e24, e25, e26, e27, e28, e29, e31, e32, e5]
 clear e20 e21 e22 e23 e24 e25 e26 e27 e28 e29 e31 e32 e5
 have E4 := Lib.hid e4
 have HW := Lib.hid hW
 clear e4 e30 e33 hW
 go_wp2
 go_ret2
 exact ⟨⟨_, rfl, E4.out⟩, HW.out⟩
end Go.Proofs.YtjogmckaakkomaaGreat
/- A node is made. No condition. -/
namespace Go.Proofs.YtjogmckaakkomaaGreat
open Go.ChangeShapes Go.WideShapes Go.ChangeAt Go.RowKit Go.Joins Go.Shelf Go.Maps
attribute [local go_sem] Oper.semAt_some

set_option maxRecDepth 100000 in
set_option maxHeartbeats 2000000 in
theorem made_true (bs kz : List Int) (dg : Int) (bv kv : Value) (w : World) (hB : Hold w bv bs) (hK : Hold w kv kz) (hl : bs.length = 64) (hkl : kz.length ≤ 64) :
  Calls Tryz.prog 42 #[.int .i64 1, bv, .int .i64 dg, kv] w fun e w' => ∃ np p hv bv' kv', e = .returned (.pointer (some ⟨np, 0, none⟩)) ∧ w.heap.size ≤ np ∧ w.heap.size ≤ p ∧ w'.heap[np]? = some (.cells (nodeC 1 dg bv' kv' false 0 (.iface 153 (.pointer (some ⟨p, 0, none⟩)))) 84 (0, 0)) ∧ EngAt true w' p hv (h0Z true bs) (keyZ 128 kz) ∧ (∀ g, hv.ownBlock = some g → w.heap.size ≤ g) ∧ Below w.heap.size w w' := by
 obtain ⟨i0, hi, hz0, hz1, hz2⟩ := info_parts info_u8
 obtain ⟨b0, hb0⟩ : ∃ b0, w.heap.size = b0 := ⟨_, rfl⟩
 have hs1 := hB.src
 have hs2 := hK.src
 rw [hl] at hs1
 have HS1 := Lib.hid hs1
 have HS2 := Lib.hid hs2
 have HZ1 := Lib.hid hB.1
 have HZ2 := Lib.hid hK.1
 have HL := Lib.hid hl
 clear hs1 hs2 hB hK hl
 go_enter Tryz.func42, Tryz.ntmps42
 go_upto_region 2 with (first | ((with_reducible show wpList _ _ _ (Oper.mk (some 13) _ _ _ _ _ :: _) _ _); refine wpList_append_now rfl _ _ _ rfl w w.heap.size rfl (Below.refl _ _) 5 i0 (.int .u8 0) 1 Tryz.underlying23 hi hz0 hz1 hz2 rfl _ 0 [] rfl (World.ownsRow_nil _ _ _ _) bv 64 _ rfl HS1.out (by unfold maxLen; omega) (by omega) ?_; intro v1 w1 ho1 hb1; have HO1 := Lib.hid ho1; have HB1 := Lib.hid hb1; clear ho1 hb1) | ((with_reducible show wpList _ _ _ (Oper.mk (some 15) _ _ _ _ _ :: _) _ _); refine wpList_append_now rfl _ _ _ rfl w1 w1.heap.size rfl (Below.refl _ _) 5 i0 (.int .u8 0) 1 Tryz.underlying23 hi hz0 hz1 hz2 rfl _ 0 [] rfl (World.ownsRow_nil _ _ _ _) kv kz.length _ rfl (HS2.out.below HB1.out) (by unfold maxLen; omega) (by omega) ?_; intro v2 w2 ho2 hb2; obtain ⟨a1, n1, c1, rfl⟩ := own_slice HO1.out; obtain ⟨a2, n2, c2, rfl⟩ := own_slice ho2; have HO2 := Lib.hid ho2; have HB2 := Lib.hid hb2; clear ho2 hb2))
 have hs1 := HB1.out.size
 have hs2 := HB2.out.size
 have hb3 : Below w2.heap.size w2 (w2.alloc (.cells (nodeC 1 dg (.slice a1 n1 c1) (.slice a2 n2 c2) false 0 .nilIface) 84)) := (Below.refl _ _).alloc (Nat.le_refl _) _
 have hr3 := World.alloc_heap_new w2 (.cells (nodeC 1 dg (.slice a1 n1 c1) (.slice a2 n2 c2) false 0 .nilIface) 84)
 have ho1 := HO1.out
 have ho2 := HO2.out
 simp only [List.nil_append, Nat.zero_add] at ho1 ho2
 have ho1 := ownsRow_same' ho1 (fun g _ hg => HB2.out.block g hg)
 have hh1 := (hold_of_own ho1 HZ1.out).below hb3
 have hh2 := (hold_of_own ho2 HZ2.out).below hb3
 have hkn : (Value.slice a2 n2 c2).ownBlock ≠ some w2.heap.size := fun e => by
  rcases ho2.2 with ⟨h, -⟩ | ⟨g, cap, cur, h, h1, h2, -⟩
  ·rw [h] at e; cases e
  ·rw [h] at e
   simp only [Value.ownBlock, Option.some.injEq] at e
   have := (Array.getElem?_eq_some_iff.1 h2).1; omega
 have hBG := begin_true bs kz w2.heap.size dg 0 false (.slice a1 n1 c1) (.slice a2 n2 c2) .nilIface _ hr3 hh1 hh2 HL.out hkl hkn
 have hbw : Below w.heap.size w (w2.alloc (.cells (nodeC 1 dg (.slice a1 n1 c1) (.slice a2 n2 c2) false 0 .nilIface) 84)) := HB1.out.trans ((HB2.out.trans (hb3.mono hs2)).mono hs1)
 have HBG := Lib.hid hBG
 have HBW := Lib.hid hbw
 clear hBG hbw hb3 hr3 ho1 ho2 hh1 hh2 hkn HO1 HO2 HB1 HB2
 go_wp2_with fail
 refine HBG.out.mono ?_; rintro e w4 ⟨rfl, ⟨p, hv, h1, h2, h3, h4⟩, h5⟩
 have HF := Lib.hid (show w.heap.size ≤ p ∧ w4.heap[w2.heap.size]? = some (.cells (nodeC 1 dg (.slice a1 n1 c1) (.slice a2 n2 c2) false 0 (.iface 153 (.pointer (some ⟨p, 0, none⟩)))) 84 (0, 0)) ∧ EngAt true w4 p hv (h0Z true bs) (keyZ 128 kz) ∧ (∀ g, hv.ownBlock = some g → w.heap.size ≤ g) ∧ Below w.heap.size w w4 from ⟨by have := HBW.out.size; omega, h2, h3, fun g hg => by have := h4 g hg; have := HBW.out.size; omega, HBW.out.trans (h5.below HBW.out.size (fun k hk => by omega))⟩)
 clear h1 h2 h3 h4 h5 HBG HBW
 have hs3 : w.heap.size ≤ w2.heap.size := by omega
 go_wp2
 go_ret
 obtain ⟨h1, h2, h3, h4, h5⟩ := HF.out
 exact ⟨_, p, hv, _, _, rfl, hs3, h1, h2, h3, h4, h5⟩
set_option maxRecDepth 100000 in
set_option maxHeartbeats 2000000 in
theorem made_false (bs kz : List Int) (dg : Int) (bv kv : Value) (w : World) (hB : Hold w bv bs) (hK : Hold w kv kz) (hl : bs.length = 32) (hkl : kz.length ≤ 32) :
  Calls Tryz.prog 42 #[.int .i64 2, bv, .int .i64 dg, kv] w fun e w' => ∃ np p hv bv' kv', e = .returned (.pointer (some ⟨np, 0, none⟩)) ∧ w.heap.size ≤ np ∧ w.heap.size ≤ p ∧ w'.heap[np]? = some (.cells (nodeC 2 dg bv' kv' false 0 (.iface 163 (.pointer (some ⟨p, 0, none⟩)))) 84 (0, 0)) ∧ EngAt false w' p hv (h0Z false bs) (keyZ 64 kz) ∧ (∀ g, hv.ownBlock = some g → w.heap.size ≤ g) ∧ Below w.heap.size w w' := by
 obtain ⟨i0, hi, hz0, hz1, hz2⟩ := info_parts info_u8
 obtain ⟨b0, hb0⟩ : ∃ b0, w.heap.size = b0 := ⟨_, rfl⟩
 have hs1 := hB.src
 have hs2 := hK.src
 rw [hl] at hs1
 have HS1 := Lib.hid hs1
 have HS2 := Lib.hid hs2
 have HZ1 := Lib.hid hB.1
 have HZ2 := Lib.hid hK.1
 have HL := Lib.hid hl
 clear hs1 hs2 hB hK hl
 go_enter Tryz.func42, Tryz.ntmps42
 go_upto_region 2 with (first | ((with_reducible show wpList _ _ _ (Oper.mk (some 13) _ _ _ _ _ :: _) _ _); refine wpList_append_now rfl _ _ _ rfl w w.heap.size rfl (Below.refl _ _) 5 i0 (.int .u8 0) 1 Tryz.underlying23 hi hz0 hz1 hz2 rfl _ 0 [] rfl (World.ownsRow_nil _ _ _ _) bv 32 _ rfl HS1.out (by unfold maxLen; omega) (by omega) ?_; intro v1 w1 ho1 hb1; have HO1 := Lib.hid ho1; have HB1 := Lib.hid hb1; clear ho1 hb1) | ((with_reducible show wpList _ _ _ (Oper.mk (some 15) _ _ _ _ _ :: _) _ _); refine wpList_append_now rfl _ _ _ rfl w1 w1.heap.size rfl (Below.refl _ _) 5 i0 (.int .u8 0) 1 Tryz.underlying23 hi hz0 hz1 hz2 rfl _ 0 [] rfl (World.ownsRow_nil _ _ _ _) kv kz.length _ rfl (HS2.out.below HB1.out) (by unfold maxLen; omega) (by omega) ?_; intro v2 w2 ho2 hb2; obtain ⟨a1, n1, c1, rfl⟩ := own_slice HO1.out; obtain ⟨a2, n2, c2, rfl⟩ := own_slice ho2; have HO2 := Lib.hid ho2; have HB2 := Lib.hid hb2; clear ho2 hb2))
 have hs1 := HB1.out.size
 have hs2 := HB2.out.size
 have hb3 : Below w2.heap.size w2 (w2.alloc (.cells (nodeC 2 dg (.slice a1 n1 c1) (.slice a2 n2 c2) false 0 .nilIface) 84)) := (Below.refl _ _).alloc (Nat.le_refl _) _
 have hr3 := World.alloc_heap_new w2 (.cells (nodeC 2 dg (.slice a1 n1 c1) (.slice a2 n2 c2) false 0 .nilIface) 84)
 have ho1 := HO1.out
 have ho2 := HO2.out
 simp only [List.nil_append, Nat.zero_add] at ho1 ho2
 have ho1 := ownsRow_same' ho1 (fun g _ hg => HB2.out.block g hg)
 have hh1 := (hold_of_own ho1 HZ1.out).below hb3
 have hh2 := (hold_of_own ho2 HZ2.out).below hb3
 have hkn : (Value.slice a2 n2 c2).ownBlock ≠ some w2.heap.size := fun e => by
  rcases ho2.2 with ⟨h, -⟩ | ⟨g, cap, cur, h, h1, h2, -⟩
  ·rw [h] at e; cases e
  ·rw [h] at e
   simp only [Value.ownBlock, Option.some.injEq] at e
   have := (Array.getElem?_eq_some_iff.1 h2).1; omega
 have hBG := begin_false bs kz w2.heap.size dg 0 false (.slice a1 n1 c1) (.slice a2 n2 c2) .nilIface _ hr3 hh1 hh2 HL.out hkl hkn
 have hbw : Below w.heap.size w (w2.alloc (.cells (nodeC 2 dg (.slice a1 n1 c1) (.slice a2 n2 c2) false 0 .nilIface) 84)) := HB1.out.trans ((HB2.out.trans (hb3.mono hs2)).mono hs1)
 have HBG := Lib.hid hBG
 have HBW := Lib.hid hbw
 clear hBG hbw hb3 hr3 ho1 ho2 hh1 hh2 hkn HO1 HO2 HB1 HB2
 go_wp2_with fail
 refine HBG.out.mono ?_; rintro e w4 ⟨rfl, ⟨p, hv, h1, h2, h3, h4⟩, h5⟩
 have HF := Lib.hid (show w.heap.size ≤ p ∧ w4.heap[w2.heap.size]? = some (.cells (nodeC 2 dg (.slice a1 n1 c1) (.slice a2 n2 c2) false 0 (.iface 163 (.pointer (some ⟨p, 0, none⟩)))) 84 (0, 0)) ∧ EngAt false w4 p hv (h0Z false bs) (keyZ 64 kz) ∧ (∀ g, hv.ownBlock = some g → w.heap.size ≤ g) ∧ Below w.heap.size w w4 from ⟨by have := HBW.out.size; omega, h2, h3, fun g hg => by have := h4 g hg; have := HBW.out.size; omega, HBW.out.trans (h5.below HBW.out.size (fun k hk => by omega))⟩)
 clear h1 h2 h3 h4 h5 HBG HBW
 have hs3 : w.heap.size ≤ w2.heap.size := by omega
 go_wp2
 go_ret
 obtain ⟨h1, h2, h3, h4, h5⟩ := HF.out
 exact ⟨_, p, hv, _, _, rfl, hs3, h1, h2, h3, h4, h5⟩
end Go.Proofs.YtjogmckaakkomaaGreat
