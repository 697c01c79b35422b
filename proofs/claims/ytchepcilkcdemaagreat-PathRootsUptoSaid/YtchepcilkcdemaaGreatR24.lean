/- What the program takes from a block of parameters, of both kinds. No condition. -/
import Derived.Test.YtchepcilkcdemaaGreatR22
import Derived.Test.YtchepcilkcdemaaGreatR23
import Derived.Test.YtchepcilkcdemaaGreatR21
import Derived.Test.YtchepcilkcdemaaGreatR05
import Derived.Laws.OwnMore
import Derived.Test.YtchepcilkcdemaaGreatR19
import Derived.Test.YtchepcilkcdemaaGreatR20
import Derived.Test.YtchepcilkcdemaaGreatR13
import Derived.Test.YtchepcilkcdemaaGreatR17
set_option linter.all false
set_option maxRecDepth 100000
set_option maxHeartbeats 8000000
namespace Go.Proofs.YtchepcilkcdemaaGreat
open Go.ChangeShapes Go.WideShapes Go.ChangeAt Go.RowKit Go.Joins Go.Shelf Go.Maps
open Go.Lib (hid)
attribute [local go_sem] Oper.semAt_some
/-- A block is one in this form. -/
def okD (big ext : Bool) (zs : List Int) : Prop := zs.length = mB big ∧ (big = true → ∀ i, 18 ≤ i → i < 32 → nthz zs i = 0) ∧ (ext = true → xoZ big ext zs ≠ 0) ∧ okC big (nthz zs 0) (nthz zs 1) (nthz zs 3) (xoZ big ext zs) (nthz zs (atB big 9))
/-- THE PROGRAM'S DECODE. -/
theorem decode_ok (big : Bool) (zs : List Int) (v : Value) (w : World) (h : Holds8 w v zs) (hz : ∀ z ∈ zs, 0 ≤ z ∧ z ≤ 255) (hcap : ∀ a n c, v = .slice a n c → n ≤ c ∧ (c : Int) ≤ 9223372036854775807) (hok : okD big false zs) :
  Calls Tryz.prog 83 #[.int .i64 (kB big), v, .bool false] w fun e w' => (∃ fo dp lf ofs nd inr sa pe, e = .returned (.tuple #[parV (nthz zs 0) (nthz zs 1) fo dp lf ofs 0 nd inr sa pe, .int .i64 0]) ∧ sa.oneCell' = true ∧ pe.oneCell' = true) ∧ Below w.heap.size w w' := by
 obtain ⟨a, cap, rfl, h⟩ := h
 obtain ⟨hl, hm, -, k0, k1, k3, k9⟩ := hok
 obtain ⟨b, off, rfl, hB⟩ := h.resolve_left (fun e => by rw [e] at hl; cases big <;> simp [mB] at hl)
 obtain ⟨hc1, hc2⟩ := hcap _ _ _ rfl
 cases big
 ·have hl' : zs.length = 32 := hl
  rw [hl'] at hc1 ⊢
  exact decode_false_false zs b off cap w hB hz hc1 hc2 hl' k0 k1.2 (k3 rfl) k9.2
 ·have hl' : zs.length = 64 := hl
  rw [hl'] at hc1 ⊢
  exact decode_true_false zs b off cap w hB hz hc1 hc2 hl' (hm rfl) k0 k1.2 (k3 rfl) k9.2
end Go.Proofs.YtchepcilkcdemaaGreat
namespace Go.Proofs.YtchepcilkcdemaaGreat
open Go.ChangeShapes Go.WideShapes Go.ChangeAt Go.RowKit Go.Joins Go.Shelf Go.Maps
open Go.Lib (hid)
/-- A field's size as it is read. -/
def szE (big ext : Bool) (f : Nat) : Nat := if f = 6 ∧ ext = true then 4 else szB big f
theorem szE_bounds (big ext : Bool) (f : Nat) (h1 : 1 ≤ f) (h2 : f ≤ 9) : 1 ≤ szE big ext f ∧ szE big ext f ≤ 8 ∧ atB big f + szE big ext f ≤ 18 ∧ (big = false → atB big f + szE big ext f ≤ 16) := by
 have h : f = 1 ∨ f = 2 ∨ f = 3 ∨ f = 4 ∨ f = 5 ∨ f = 6 ∨ f = 7 ∨ f = 8 ∨ f = 9 := by omega
 rcases h with rfl | rfl | rfl | rfl | rfl | rfl | rfl | rfl | rfl <;> cases big <;> cases ext <;> decide
attribute [local go_sem] Oper.semAt_some run_index_arr
theorem refStoreN_ok (x n : Nat) (hn : n ≤ 8) (hx : (x : Int) ≤ 18446744073709551615) (w : World) :
  Calls Tryz.prog 162 #[.int .u64 x, .int .i64 (n : Nat)] w fun e w' => ∃ v, e = .returned v ∧ w'.ownsRow w.heap.size 5 1 v n ((bytesK x n).map encB) ∧ Below w.heap.size w w' := by
 obtain ⟨i0, hi, hz0, hz1, hz2⟩ := info_parts info_u8
 go_enter Tryz.func162, Tryz.ntmps162
 go_wp2_with fail
 go_loopw [0, 5, 6] (fun t o i wr => ∃ (k : Nat) (v : Value), t = .int .u64 (quoB x k : Nat) ∧ o = v ∧ i = .int .i64 k ∧ k ≤ n ∧ wr.ownsRow w.heap.size 5 1 v k ((bytesK x k).map encB) ∧ Below w.heap.size w wr) (fun _ _ i _ => n - (intOf i).toNat)
 case atStart => exact ⟨0, _, by simp [quoB], rfl, rfl, by omega, World.ownsRow_nil _ _ _ _, Below.refl _ _⟩
 case round =>
  obtain ⟨k, v, rfl, rfl, rfl, hk, hown, hb⟩ := hrel
  have hsr := hb.size
  by_cases hlt : k < n
  ·have q1 := quoB_rem x k
   have q2 := quoB_div x k
   have q4 : IntKind.u64.wrap ((quoB x (k + 1) : Nat) : Int) = ((quoB x (k + 1) : Nat) : Int) := u64_wrap_id _ (by omega) (by have := quoB_le x (k + 1); omega)
   have q3 : (quoB x k : Int) ≤ 18446744073709551615 := by have := quoB_le x k; omega
   have e1 : (bytesK x (k + 1)).map encB = (bytesK x k).map encB ++ [.int .u8 (byt x k)] := by rw [bytesK_succ, List.map_append]; rfl
   have E1 := hid e1
   clear e1
   go_wp2_with (at_builtin; refine wpList_append_own _ rfl _ _ 24 rfl w.heap.size 5 i0 (.int .u8 0) 1 1 Tryz.underlying24 hi hz0 hz1 hz2 rfl (by decide) _ _ _ rfl (hown.alloc _) ⟨wr.heap.size, 0, none⟩ 1 1 [.int .u8 (byt x k)] rfl rfl (cell_one_new _ _ _) (by simp [Value.oneCell']) (by unfold maxLen; omega) (by omega) (by simp; omega) ?_; intro v' w2 hown' hgrow _; have hb3 : Below w.heap.size w w2 := (hb.alloc hsr _).grown hgrow (by simp; omega) (fun k e => (hown.lt k e).1))
   rw [← E1.out] at hown'
   exact ⟨⟨k + 1, v', rfl, rfl, rfl, by omega, hown', hb3⟩, by simp [intOf]; omega⟩
  ·obtain rfl : k = n := by omega
   go_wp2
   go_ret
   exact ⟨_, rfl, hown, hb⟩
/-- The bytes of a word of a kind. -/
def wB (big : Bool) : Nat := cond big 8 4
theorem refFull_ok (big : Bool) (w : World) :
  Calls Tryz.prog 127 #[.int .i64 (kB big)] w fun e w' => e = .returned (.int .i64 (mB big : Nat)) ∧ w' = w := by
 cases big <;>
 ·simp only [kB, mB, cond]
  go_enter Tryz.func127, Tryz.ntmps127
  go_wp2
  go_ret
  exact ⟨rfl, rfl⟩
theorem refBytes_ok (big : Bool) (h : List Int) (hh : Words 64 16 h) (w : World) :
  Calls Tryz.prog 148 #[.int .i64 (kB big), .agg (arrV .u64 h)] w fun e w' => ∃ v, e = .returned v ∧ w'.ownsRow w.heap.size 5 1 v (wB big * 8) ((bytesW (wB big) h 8).map encB) ∧ Below w.heap.size w w' := by
 obtain ⟨i0, hi, hz0, hz1, hz2⟩ := info_parts info_u8
 obtain ⟨b0, hb0⟩ : ∃ b0, w.heap.size = b0 := ⟨_, rfl⟩
 have hb1 : Below b0 w (w.alloc (.cells (arrV .u64 h) 212)) := by rw [← hb0]; exact (Below.refl _ _).alloc (Nat.le_refl _) _
 have hw8 : wB big ≤ 8 := by cases big <;> decide
 have hwz : 0 < wB big := by cases big <;> decide
 have hdiv : (((mB big : Nat) : Int).tdiv 8) = (wB big : Nat) := by cases big <;> rfl
 go_enter Tryz.func148, Tryz.ntmps148
 go_wp2_with fail
 go_loopw [5, 6] (fun o i wr => ∃ (k : Nat) (v : Value), o = v ∧ i = .int .i64 k ∧ k ≤ 8 ∧ wr.ownsRow (b0 + 1) 5 1 v (wB big * k) ((bytesW (wB big) h k).map encB) ∧ Below (b0 + 1) (w.alloc (.cells (arrV .u64 h) 212)) wr) (fun _ i _ => 8 - (intOf i).toNat)
 case atStart => exact ⟨0, _, rfl, rfl, by omega, World.ownsRow_nil _ _ _ _, Below.refl _ _⟩
 case round =>
  obtain ⟨k, v, rfl, rfl, hk, hown, hb⟩ := hrel
  have hsr : b0 + 1 ≤ wr.heap.size := by have := hb.size; simp at this; omega
  by_cases hlt : k < 8
  ·have hck : wr.cell? ⟨b0, k, none⟩ = some (.int .u64 (wd h k)) := by
    rw [hb.cell (p := ⟨b0, k, none⟩) (by show b0 < b0 + 1; omega), ← hb0, cell_of_heap (World.alloc_heap_new w _) k]
    exact arrV_at hh (by omega)
   have hbk : b0 < wr.heap.size := by omega
   have hwb := wd_bounds hh (show k < 16 by omega)
   obtain ⟨X, hX, hX2⟩ : ∃ X : Nat, wd h k = (X : Int) ∧ (wd h k).toNat = X := ⟨(wd h k).toNat, by omega, rfl⟩
   rw [hX] at hck hwb
   have hwx : (X : Int) ≤ 18446744073709551615 := by omega
   have hmul : wB big * k ≤ 64 := by have := Nat.mul_le_mul hw8 (show k ≤ 8 by omega); omega
   have hdivw : IntKind.i64.wrap (((mB big : Nat) : Int).tdiv 8) = (wB big : Nat) := by cases big <;> rfl
   have hdivx : IntKind.i64.wrap ((wB big : Nat) : Int) = (wB big : Nat) := by cases big <;> rfl
   have k1 : (k : Int) < 16 := by omega
   have k2 : 0 ≤ (k : Int) := by omega
   have hwr : Below wr.heap.size wr wr.drew := (Below.refl _ _).drew
   go_wp2_with fail
   rw [decide_eq_true (show (k : Int) < 8 by omega)]
   refine wp_region_c (n := 8) (w0 := wr) (B := wr.heap.size) [.v 11 u5, .v 12 (.int .i64 (k : Nat)), .v 13 (.pointer (some ⟨b0, k, none⟩)), .v 14 (.int .u64 (X : Nat)), .v 15 (.int .i64 (kB big)), .v 16 (.int .i64 (mB big : Nat)), .v 17 (.int .i64 (wB big : Nat)), .p 18 (fun u W => W.ownsRow wr.heap.size 5 1 u (wB big) ((bytesK X (wB big)).map encB))] (by exact ⟨(fun _ _ _ h hb => ownsRow_same' h (fun g _ g2 => hb.block g g2)), trivial⟩) hwr (Nat.le_refl _) ?_ ?_
   ·repeat' (with_reducible first | exact eachO_nil | refine eachO_cons ?_ ?_)
    all_goals try
     intro A x W hA hW hBW hdep D K hK
     have a5 := hA.2 5 (by decide)
     conv at a5 => rhs; whnf
     have a6 := hA.2 6 (by decide)
     conv at a6 => rhs; whnf
     have a3 := hA.2 3 (by decide)
     conv at a3 => rhs; whnf
     have a0 := hA.2 0 (by decide)
     conv at a0 => rhs; whnf
     simp only [DepF, nthF] at D
     clear hdep hA
     first
     | go_simp
       exact hK _ _ BR rfl
     | have y0 := (hW.cell (p := ⟨b0, k, none⟩) hbk).trans hck
       have y1 : b0 < W.heap.size := Nat.lt_of_lt_of_le hbk hBW
       go_simp
       exact hK _ _ BR rfl
    ·intro A x W hA hW hBW hdep _ K hK
     have g15 := gv hA hdep 4 15
     clear hdep hA
     go_simp
     refine (refFull_ok big W).mono ?_
     rintro r w2 ⟨rfl, rfl⟩
     exact hK _ _ BR rfl
    ·intro A x W hA hW hBW hdep _ K hK
     have g14 := gv hA hdep 3 14
     have g17 := gv hA hdep 6 17
     clear hdep hA
     go_simp
     refine (refStoreN_ok X (wB big) hw8 hwx W).mono ?_
     rintro r w2 ⟨u, rfl, hown2, hb2⟩
     exact hK _ _ hb2 (ownsRow_le hown2 hBW)
   intro x W hW hBW hall
   obtain ⟨e18, -⟩ := hall
   change (fun u W => W.ownsRow wr.heap.size 5 1 u (wB big) ((bytesK X (wB big)).map encB)) (x 18) W at e18
   refine thenTail_cons ?_
   simp only [layS, Act.put, List.setIfInBounds_toArray, List.set_cons_zero, List.set_cons_succ]
   refine wpList_append_now rfl _ _ _ (by rfl) (w.alloc (.cells (arrV .u64 h) 212)) (b0 + 1) (by simp; omega) (hb.trans (hW.mono hsr)) 5 i0 (.int .u8 0) 1 Tryz.underlying24 hi hz0 hz1 hz2 rfl _ (wB big * k) ((bytesW (wB big) h k).map encB) (by rfl) (ownsRow_same' hown (fun g _ g2 => hW.block g g2)) (x 18) (wB big) ((bytesK X (wB big)).map encB) (by rfl) (src_of_own e18 (by simp [encB, Value.oneCell'])) (by unfold maxLen; omega) (by omega) ?_
   intro v' w' hown' hb'
   refine thenTail_cons ?_
   rw [← List.map_append, ← hX2] at hown'
   simp only [Act.put, List.setIfInBounds_toArray, List.set_cons_zero, List.set_cons_succ]
   go_wp2_with fail
   refine thenTail_nil ?_
   go_wp2_with fail
   exact ⟨⟨k + 1, v', rfl, rfl, by omega, hown', hb'⟩, by simp [intOf]; omega⟩
  ·obtain rfl : k = 8 := by omega
   go_wp2
   go_ret
   refine ⟨_, rfl, ownsRow_le hown (by omega), ?_⟩
   rw [hb0]
   exact hb1.trans (hb.mono (by omega))
/-- The bytes of a block, the bits of a word. -/
def bB (big : Bool) : Nat := cond big 128 64
def nB (big : Bool) : Nat := cond big 64 32
def wK (big : Bool) : IntKind := cond big .u64 .u32
theorem bB_pos (big : Bool) : 0 < bB big := by cases big <;> decide
theorem wK_wrap (big : Bool) : ∀ z, (wK big).wrap z = z % 2 ^ nB big := by
 cases big
 ·intro z; exact IntKind.wrap_u32 z
 ·intro z; exact IntKind.wrap_u64 z
/-- A block goes into a state. -/
def compZ (big : Bool) (h bs : List Int) (lo : Int) (last node : Bool) : List Int :=
 cond big (compF mixBig IVb 12 h (wordsZ 8 16 bs) lo 0 last node) (compF mixSmall IVs 10 h (wordsZ 4 16 bs) (lo % 4294967296) (lo / 4294967296) last node)
theorem compZ_words (big : Bool) {h : List Int} (hh : Words (nB big) 8 h) (bs : List Int) (lo : Int) (last node : Bool) : Words (nB big) 8 (compZ big h bs lo last node) := by
 cases big
 ·exact finN_words (k := .u32) (N := 32) (fun z => IntKind.wrap_u32 z) hh 8
 ·exact finN_words (k := .u64) (N := 64) (fun z => IntKind.wrap_u64 z) hh 8
/-- Filled up with noughts. -/
def padZ (n : Nat) (zs : List Int) : List Int := zs ++ List.replicate (n - zs.length) 0
theorem padZ_length {n : Nat} {zs : List Int} (h : zs.length ≤ n) : (padZ n zs).length = n := by simp [padZ]; omega
theorem padZ_full {n : Nat} {zs : List Int} (h : zs.length = n) : padZ n zs = zs := by simp [padZ, h]
theorem padZ_bounds {n : Nat} {zs : List Int} (h : ∀ z ∈ zs, 0 ≤ z ∧ z ≤ 255) : ∀ z ∈ padZ n zs, 0 ≤ z ∧ z ≤ 255 := by
 intro z hz
 rcases List.mem_append.1 hz with hz | hz
 ·exact h z hz
 ·rw [List.eq_of_mem_replicate hz]; omega
def blkZ (n : Nat) (msg : List Int) (k : Nat) : List Int := padZ n ((msg.drop (n * k)).take n)
theorem blkZ_app {n : Nat} {msg x : List Int} {k : Nat} (h : n * (k + 1) ≤ msg.length) : blkZ n (msg ++ x) k = blkZ n msg k := by
 have e : n * (k + 1) = n * k + n := Nat.mul_succ n k
 unfold blkZ
 rw [List.drop_append_of_le_length (by omega), List.take_append_of_le_length (by simp; omega)]
/-- The state behind so many blocks. -/
def stZ (big : Bool) (h0 msg : List Int) : Nat → List Int
 | 0 => h0
 | k + 1 => compZ big (stZ big h0 msg k) (blkZ (bB big) msg k) ((bB big * (k + 1) : Nat) : Int) false false
theorem stZ_words (big : Bool) {h0 : List Int} (hh : Words (nB big) 8 h0) (msg : List Int) : ∀ k, Words (nB big) 8 (stZ big h0 msg k)
 | 0 => hh
 | k + 1 => compZ_words big (stZ_words big hh msg k) _ _ _ _
theorem stZ_app (big : Bool) (h0 : List Int) {msg x : List Int} : ∀ {k : Nat}, bB big * k ≤ msg.length → stZ big h0 (msg ++ x) k = stZ big h0 msg k
 | 0, _ => rfl
 | k + 1, h => by
  have e : bB big * (k + 1) = bB big * k + bB big := Nat.mul_succ _ k
  rw [stZ, stZ, stZ_app big h0 (k := k) (by omega), blkZ_app h]
/-- How many blocks of n bytes have gone in, of so many bytes: the last one is held back. -/
def nbk (n len : Nat) : Nat := (len - 1) / n
theorem nbk_spec {n : Nat} (hn : 0 < n) (len : Nat) : n * nbk n len ≤ len ∧ len ≤ n * nbk n len + n ∧ (0 < len → n * nbk n len < len) := by
 have h1 := Nat.div_add_mod (len - 1) n
 have h2 := Nat.mod_lt (len - 1) hn
 unfold nbk
 omega
theorem nbk_eq {n len q : Nat} (h1 : n * q < len) (h2 : len ≤ n * q + n) : nbk n len = q := by
 unfold nbk
 have h3 : q * n = n * q := Nat.mul_comm _ _
 have h4 : (q + 1) * n = n * q + n := by rw [Nat.succ_mul, h3]
 exact Nat.div_eq_of_lt_le (by omega) (by omega)
theorem nbk_zero (n : Nat) : nbk n 0 = 0 := by simp [nbk]
/-- What is held back. -/
def heldZ (n : Nat) (msg : List Int) : List Int := msg.drop (n * nbk n msg.length)
theorem heldZ_length (n : Nat) (msg : List Int) : (heldZ n msg).length = msg.length - n * nbk n msg.length := by simp [heldZ]
theorem heldZ_le {n : Nat} (hn : 0 < n) (msg : List Int) : (heldZ n msg).length ≤ n := by
 rw [heldZ_length]; have := nbk_spec hn msg.length; omega
theorem heldZ_bounds {n : Nat} {msg : List Int} (h : ∀ z ∈ msg, 0 ≤ z ∧ z ≤ 255) : ∀ z ∈ heldZ n msg, 0 ≤ z ∧ z ≤ 255 := fun z hz => h z (List.mem_of_mem_drop hz)
theorem blkZ_held {n : Nat} (hn : 0 < n) (msg : List Int) : blkZ n msg (nbk n msg.length) = padZ n (heldZ n msg) := by
 unfold blkZ
 show padZ n ((heldZ n msg).take n) = _
 rw [List.take_of_length_le (heldZ_le hn msg)]
/-- There is room: what comes is held, too. -/
theorem held_room {n : Nat} (hn : 0 < n) {msg x : List Int} (hx : 0 < x.length) (hr : (heldZ n msg).length + x.length ≤ n) :
  nbk n (msg ++ x).length = nbk n msg.length ∧ heldZ n (msg ++ x) = heldZ n msg ++ x := by
 rw [heldZ_length] at hr
 have h1 := nbk_spec hn msg.length
 have h2 : nbk n (msg ++ x).length = nbk n msg.length := nbk_eq (by simp; omega) (by simp; omega)
 refine ⟨h2, ?_⟩
 unfold heldZ
 rw [h2, List.drop_append_of_le_length h1.1]
/-- There is none: what was held goes in. -/
theorem held_full {n : Nat} (hn : 0 < n) {msg x : List Int} (hx : 0 < x.length) (hx2 : x.length ≤ n) (hr : (heldZ n msg).length = n) :
  nbk n (msg ++ x).length = nbk n msg.length + 1 ∧ heldZ n (msg ++ x) = x ∧ n * (nbk n msg.length + 1) = msg.length := by
 rw [heldZ_length] at hr
 have h1 := nbk_spec hn msg.length
 have h3 : n * (nbk n msg.length + 1) = n * nbk n msg.length + n := Nat.mul_succ _ _
 have h4 : n * (nbk n msg.length + 1) = msg.length := by omega
 have h2 : nbk n (msg ++ x).length = nbk n msg.length + 1 := nbk_eq (by simp; omega) (by simp; omega)
 refine ⟨h2, ?_, h4⟩
 unfold heldZ
 rw [h2, h4, List.drop_left]
/-- What the next bytes find: the state, the count, what is held. -/
def NextIs (big : Bool) (h0 msg H : List Int) (lo : Nat) (hl : List Int) : Prop :=
 ∀ x : List Int, 0 < x.length → hl.length + x.length ≤ bB big → stZ big h0 (msg ++ x) (nbk (bB big) (msg ++ x).length) = H ∧ bB big * nbk (bB big) (msg ++ x).length = lo ∧ heldZ (bB big) (msg ++ x) = hl ++ x
theorem next_room (big : Bool) (h0 msg : List Int) : NextIs big h0 msg (stZ big h0 msg (nbk (bB big) msg.length)) (bB big * nbk (bB big) msg.length) (heldZ (bB big) msg) := by
 intro x hx hr
 obtain ⟨h1, h2⟩ := held_room (bB_pos big) hx hr
 rw [h1, h2]
 exact ⟨stZ_app big h0 (nbk_spec (bB_pos big) _).1, rfl, rfl⟩
theorem next_full (big : Bool) (h0 msg : List Int) (hf : (heldZ (bB big) msg).length = bB big) :
  NextIs big h0 msg (compZ big (stZ big h0 msg (nbk (bB big) msg.length)) (heldZ (bB big) msg) ((bB big * nbk (bB big) msg.length + bB big : Nat) : Int) false false) (bB big * nbk (bB big) msg.length + bB big) [] := by
 intro x hx hr
 obtain ⟨h1, h2, h3⟩ := held_full (bB_pos big) hx (by simpa using hr) hf
 have e : bB big * (nbk (bB big) msg.length + 1) = bB big * nbk (bB big) msg.length + bB big := Nat.mul_succ _ _
 rw [h1, h2]
 refine ⟨?_, e, rfl⟩
 rw [stZ_app big h0 (by omega), stZ, blkZ_held (bB_pos big), padZ_full hf, e]
theorem held_sum {n : Nat} (hn : 0 < n) (msg : List Int) : n * nbk n msg.length + (heldZ n msg).length = msg.length := by
 rw [heldZ_length]; have := nbk_spec hn msg.length; omega
/-- The whole output. -/
def outZ (big : Bool) (h0 msg : List Int) (node : Bool) : List Int :=
 bytesW (wB big) (compZ big (stZ big h0 msg (nbk (bB big) msg.length)) (blkZ (bB big) msg (nbk (bB big) msg.length)) (msg.length : Int) true node) 8
theorem outZ_length (big : Bool) (h0 msg : List Int) (node : Bool) : (outZ big h0 msg node).length = mB big := by
 unfold outZ; rw [bytesW_length]; cases big <;> rfl
theorem outZ_bounds (big : Bool) (h0 msg : List Int) (node : Bool) : ∀ z ∈ outZ big h0 msg node, 0 ≤ z ∧ z ≤ 255 := bytesW_bounds _ _ _
/-- The state at first; the key's block. -/
def h0Z (big : Bool) (block : List Int) : List Int := startL (wK big) (cond big IVb IVs) (wB big) block
theorem h0Z_words (big : Bool) (block : List Int) : Words (nB big) 8 (h0Z big block) := startL_words (wK_wrap big) _ _ _
def keyZ (n : Nat) (key : List Int) : List Int := if key.length = 0 then [] else padZ n key
theorem keyZ_bounds {n : Nat} {key : List Int} (h : ∀ z ∈ key, 0 ≤ z ∧ z ≤ 255) : ∀ z ∈ keyZ n key, 0 ≤ z ∧ z ≤ 255 := by
 unfold keyZ
 split
 ·intro z hz; cases hz
 ·exact padZ_bounds h
theorem keyZ_length {n : Nat} {key : List Int} (h : key.length ≤ n) : (keyZ n key).length ≤ n := by
 unfold keyZ
 split
 ·simp
 ·rw [padZ_length h]; exact Nat.le_refl _
end Go.Proofs.YtchepcilkcdemaaGreat
