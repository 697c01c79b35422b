/- What the program takes from a block of parameters, of both kinds. No condition. -/
import Derived.Test.YtahenngmaoellaaN22
import Derived.Test.YtahenngmaoellaaN23
import Derived.Test.YtahenngmaoellaaN21
import Derived.Test.YtahenngmaoellaaN05
import Derived.Laws.OwnMore
import Derived.Test.YtahenngmaoellaaN19
import Derived.Test.YtahenngmaoellaaN20
import Derived.Test.YtahenngmaoellaaN13
import Derived.Test.YtahenngmaoellaaN17
set_option linter.all false
set_option maxRecDepth 100000
set_option maxHeartbeats 8000000
namespace Go.Proofs.Ytahenngmaoellaa
open Go.ChangeShapes Go.WideShapes Go.ChangeAt Go.RowKit Go.Joins Go.Shelf Go.Maps
attribute [local go_sem] Oper.semAt_some
/-- A block is one in this form. -/
def okD (big ext : Bool) (zs : List Int) : Prop := zs.length = mB big ∧ (big = true → ∀ i, 18 ≤ i → i < 32 → nthz zs i = 0) ∧ (ext = true → xoZ big ext zs ≠ 0) ∧ okC big (nthz zs 0) (nthz zs 1) (nthz zs 3) (xoZ big ext zs) (nthz zs (atB big 9))
/-- THE PROGRAM'S DECODE. -/
theorem decode_ok (big : Bool) (zs : List Int) (v : Value) (w : World) (h : Holds8 w v zs) (hz : ∀ z ∈ zs, 0 ≤ z ∧ z ≤ 255) (hcap : ∀ a n c, v = .slice a n c → n ≤ c ∧ (c : Int) ≤ 9223372036854775807) (hok : okD big false zs) :
  Calls Try.prog 28 #[.int .i64 (kB big), v, .bool false] w fun e w' => (∃ fo dp lf ofs nd inr sa pe, e = .returned (.tuple #[parV (nthz zs 0) (nthz zs 1) fo dp lf ofs 0 nd inr sa pe, .int .i64 0]) ∧ sa.oneCell' = true ∧ pe.oneCell' = true) ∧ Below w.heap.size w w' := by
 obtain ⟨a, cap, rfl, h⟩ := h
 obtain ⟨hl, hm, -, k0, k1, k3, k9⟩ := hok
 obtain ⟨b, off, rfl, hB⟩ := h.resolve_left (fun e => by rw [e] at hl; cases big <;> simp [mB] at hl)
 obtain ⟨hc1, hc2⟩ := hcap _ _ _ rfl
 cases big
 ·have hl' : zs.length = 32 := hl
  rw [hl'] at hc1 ⊢
  exact decode_false_false zs b off cap w hB hz hc1 hc2 hl' k0 k1.2 (k3 rfl) k9.2
 ·have hl' : zs.length = 64 := hl
  rw [hl'] at hc1 ⊢
  exact decode_true_false zs b off cap w hB hz hc1 hc2 hl' (hm rfl) k0 k1.2 (k3 rfl) k9.2
end Go.Proofs.Ytahenngmaoellaa
namespace Go.Proofs.Ytahenngmaoellaa
open Go.ChangeShapes Go.WideShapes Go.ChangeAt Go.RowKit Go.Joins Go.Shelf Go.Maps
/-- A field's size as it is read. -/
def szE (big ext : Bool) (f : Nat) : Nat := if f = 6 ∧ ext = true then 4 else szB big f
theorem szE_bounds (big ext : Bool) (f : Nat) (h1 : 1 ≤ f) (h2 : f ≤ 9) : 1 ≤ szE big ext f ∧ szE big ext f ≤ 8 ∧ atB big f + szE big ext f ≤ 18 ∧ (big = false → atB big f + szE big ext f ≤ 16) := by
 have h : f = 1 ∨ f = 2 ∨ f = 3 ∨ f = 4 ∨ f = 5 ∨ f = 6 ∨ f = 7 ∨ f = 8 ∨ f = 9 := by omega
 rcases h with rfl | rfl | rfl | rfl | rfl | rfl | rfl | rfl | rfl <;> cases big <;> cases ext <;> decide
attribute [local go_sem] Oper.semAt_some run_index_arr
/-- The bytes of a word of a kind. -/
def wB (big : Bool) : Nat := cond big 8 4
/-- The bytes of a block, the bits of a word. -/
def bB (big : Bool) : Nat := cond big 128 64
def nB (big : Bool) : Nat := cond big 64 32
def wK (big : Bool) : IntKind := cond big .u64 .u32
theorem bB_pos (big : Bool) : 0 < bB big := by cases big <;> decide
theorem wK_wrap (big : Bool) : ∀ z, (wK big).wrap z = z % 2 ^ nB big := by
 cases big
 ·intro z; exact IntKind.wrap_u32 z
 ·intro z; exact IntKind.wrap_u64 z
/-- A block goes into a state. -/
def compZ (big : Bool) (h bs : List Int) (lo : Int) (last node : Bool) : List Int :=
 cond big (compF mixBig IVb 12 h (wordsZ 8 16 bs) lo 0 last node) (compF mixSmall IVs 10 h (wordsZ 4 16 bs) (lo % 4294967296) (lo / 4294967296) last node)
theorem compZ_words (big : Bool) {h : List Int} (hh : Words (nB big) 8 h) (bs : List Int) (lo : Int) (last node : Bool) : Words (nB big) 8 (compZ big h bs lo last node) := by
 cases big
 ·exact finN_words (k := .u32) (N := 32) (fun z => IntKind.wrap_u32 z) hh 8
 ·exact finN_words (k := .u64) (N := 64) (fun z => IntKind.wrap_u64 z) hh 8
/-- Filled up with noughts. -/
def padZ (n : Nat) (zs : List Int) : List Int := zs ++ List.replicate (n - zs.length) 0
theorem padZ_length {n : Nat} {zs : List Int} (h : zs.length ≤ n) : (padZ n zs).length = n := by simp [padZ]; omega
theorem padZ_full {n : Nat} {zs : List Int} (h : zs.length = n) : padZ n zs = zs := by simp [padZ, h]
theorem padZ_bounds {n : Nat} {zs : List Int} (h : ∀ z ∈ zs, 0 ≤ z ∧ z ≤ 255) : ∀ z ∈ padZ n zs, 0 ≤ z ∧ z ≤ 255 := by
 intro z hz
 rcases List.mem_append.1 hz with hz | hz
 ·exact h z hz
 ·rw [List.eq_of_mem_replicate hz]; omega
def blkZ (n : Nat) (msg : List Int) (k : Nat) : List Int := padZ n ((msg.drop (n * k)).take n)
theorem blkZ_app {n : Nat} {msg x : List Int} {k : Nat} (h : n * (k + 1) ≤ msg.length) : blkZ n (msg ++ x) k = blkZ n msg k := by
 have e : n * (k + 1) = n * k + n := Nat.mul_succ n k
 unfold blkZ
 rw [List.drop_append_of_le_length (by omega), List.take_append_of_le_length (by simp; omega)]
/-- The state behind so many blocks. -/
def stZ (big : Bool) (h0 msg : List Int) : Nat → List Int
 | 0 => h0
 | k + 1 => compZ big (stZ big h0 msg k) (blkZ (bB big) msg k) ((bB big * (k + 1) : Nat) : Int) false false
theorem stZ_words (big : Bool) {h0 : List Int} (hh : Words (nB big) 8 h0) (msg : List Int) : ∀ k, Words (nB big) 8 (stZ big h0 msg k)
 | 0 => hh
 | k + 1 => compZ_words big (stZ_words big hh msg k) _ _ _ _
theorem stZ_app (big : Bool) (h0 : List Int) {msg x : List Int} : ∀ {k : Nat}, bB big * k ≤ msg.length → stZ big h0 (msg ++ x) k = stZ big h0 msg k
 | 0, _ => rfl
 | k + 1, h => by
  have e : bB big * (k + 1) = bB big * k + bB big := Nat.mul_succ _ k
  rw [stZ, stZ, stZ_app big h0 (k := k) (by omega), blkZ_app h]
/-- How many blocks of n bytes have gone in, of so many bytes: the last one is held back. -/
def nbk (n len : Nat) : Nat := (len - 1) / n
theorem nbk_spec {n : Nat} (hn : 0 < n) (len : Nat) : n * nbk n len ≤ len ∧ len ≤ n * nbk n len + n ∧ (0 < len → n * nbk n len < len) := by
 have h1 := Nat.div_add_mod (len - 1) n
 have h2 := Nat.mod_lt (len - 1) hn
 unfold nbk
 omega
theorem nbk_eq {n len q : Nat} (h1 : n * q < len) (h2 : len ≤ n * q + n) : nbk n len = q := by
 unfold nbk
 have h3 : q * n = n * q := Nat.mul_comm _ _
 have h4 : (q + 1) * n = n * q + n := by rw [Nat.succ_mul, h3]
 exact Nat.div_eq_of_lt_le (by omega) (by omega)
theorem nbk_zero (n : Nat) : nbk n 0 = 0 := by simp [nbk]
/-- What is held back. -/
def heldZ (n : Nat) (msg : List Int) : List Int := msg.drop (n * nbk n msg.length)
theorem heldZ_length (n : Nat) (msg : List Int) : (heldZ n msg).length = msg.length - n * nbk n msg.length := by simp [heldZ]
theorem heldZ_le {n : Nat} (hn : 0 < n) (msg : List Int) : (heldZ n msg).length ≤ n := by
 rw [heldZ_length]; have := nbk_spec hn msg.length; omega
theorem heldZ_bounds {n : Nat} {msg : List Int} (h : ∀ z ∈ msg, 0 ≤ z ∧ z ≤ 255) : ∀ z ∈ heldZ n msg, 0 ≤ z ∧ z ≤ 255 := fun z hz => h z (List.mem_of_mem_drop hz)
theorem blkZ_held {n : Nat} (hn : 0 < n) (msg : List Int) : blkZ n msg (nbk n msg.length) = padZ n (heldZ n msg) := by
 unfold blkZ
 show padZ n ((heldZ n msg).take n) = _
 rw [List.take_of_length_le (heldZ_le hn msg)]
/-- There is room: what comes is held, too. -/
theorem held_room {n : Nat} (hn : 0 < n) {msg x : List Int} (hx : 0 < x.length) (hr : (heldZ n msg).length + x.length ≤ n) :
  nbk n (msg ++ x).length = nbk n msg.length ∧ heldZ n (msg ++ x) = heldZ n msg ++ x := by
 rw [heldZ_length] at hr
 have h1 := nbk_spec hn msg.length
 have h2 : nbk n (msg ++ x).length = nbk n msg.length := nbk_eq (by simp; omega) (by simp; omega)
 refine ⟨h2, ?_⟩
 unfold heldZ
 rw [h2, List.drop_append_of_le_length h1.1]
/-- There is none: what was held goes in. -/
theorem held_full {n : Nat} (hn : 0 < n) {msg x : List Int} (hx : 0 < x.length) (hx2 : x.length ≤ n) (hr : (heldZ n msg).length = n) :
  nbk n (msg ++ x).length = nbk n msg.length + 1 ∧ heldZ n (msg ++ x) = x ∧ n * (nbk n msg.length + 1) = msg.length := by
 rw [heldZ_length] at hr
 have h1 := nbk_spec hn msg.length
 have h3 : n * (nbk n msg.length + 1) = n * nbk n msg.length + n := Nat.mul_succ _ _
 have h4 : n * (nbk n msg.length + 1) = msg.length := by omega
 have h2 : nbk n (msg ++ x).length = nbk n msg.length + 1 := nbk_eq (by simp; omega) (by simp; omega)
 refine ⟨h2, ?_, h4⟩
 unfold heldZ
 rw [h2, h4, List.drop_left]
/-- What the next bytes find: the state, the count, what is held. -/
def NextIs (big : Bool) (h0 msg H : List Int) (lo : Nat) (hl : List Int) : Prop :=
 ∀ x : List Int, 0 < x.length → hl.length + x.length ≤ bB big → stZ big h0 (msg ++ x) (nbk (bB big) (msg ++ x).length) = H ∧ bB big * nbk (bB big) (msg ++ x).length = lo ∧ heldZ (bB big) (msg ++ x) = hl ++ x
theorem next_room (big : Bool) (h0 msg : List Int) : NextIs big h0 msg (stZ big h0 msg (nbk (bB big) msg.length)) (bB big * nbk (bB big) msg.length) (heldZ (bB big) msg) := by
 intro x hx hr
 obtain ⟨h1, h2⟩ := held_room (bB_pos big) hx hr
 rw [h1, h2]
 exact ⟨stZ_app big h0 (nbk_spec (bB_pos big) _).1, rfl, rfl⟩
theorem next_full (big : Bool) (h0 msg : List Int) (hf : (heldZ (bB big) msg).length = bB big) :
  NextIs big h0 msg (compZ big (stZ big h0 msg (nbk (bB big) msg.length)) (heldZ (bB big) msg) ((bB big * nbk (bB big) msg.length + bB big : Nat) : Int) false false) (bB big * nbk (bB big) msg.length + bB big) [] := by
 intro x hx hr
 obtain ⟨h1, h2, h3⟩ := held_full (bB_pos big) hx (by simpa using hr) hf
 have e : bB big * (nbk (bB big) msg.length + 1) = bB big * nbk (bB big) msg.length + bB big := Nat.mul_succ _ _
 rw [h1, h2]
 refine ⟨?_, e, rfl⟩
 rw [stZ_app big h0 (by omega), stZ, blkZ_held (bB_pos big), padZ_full hf, e]
theorem held_sum {n : Nat} (hn : 0 < n) (msg : List Int) : n * nbk n msg.length + (heldZ n msg).length = msg.length := by
 rw [heldZ_length]; have := nbk_spec hn msg.length; omega
/-- The whole output. -/
def outZ (big : Bool) (h0 msg : List Int) (node : Bool) : List Int :=
 bytesW (wB big) (compZ big (stZ big h0 msg (nbk (bB big) msg.length)) (blkZ (bB big) msg (nbk (bB big) msg.length)) (msg.length : Int) true node) 8
theorem outZ_length (big : Bool) (h0 msg : List Int) (node : Bool) : (outZ big h0 msg node).length = mB big := by
 unfold outZ; rw [bytesW_length]; cases big <;> rfl
theorem outZ_bounds (big : Bool) (h0 msg : List Int) (node : Bool) : ∀ z ∈ outZ big h0 msg node, 0 ≤ z ∧ z ≤ 255 := bytesW_bounds _ _ _
/-- The state at first; the key's block. -/
def h0Z (big : Bool) (block : List Int) : List Int := startL (wK big) (cond big IVb IVs) (wB big) block
theorem h0Z_words (big : Bool) (block : List Int) : Words (nB big) 8 (h0Z big block) := startL_words (wK_wrap big) _ _ _
def keyZ (n : Nat) (key : List Int) : List Int := if key.length = 0 then [] else padZ n key
theorem keyZ_bounds {n : Nat} {key : List Int} (h : ∀ z ∈ key, 0 ≤ z ∧ z ≤ 255) : ∀ z ∈ keyZ n key, 0 ≤ z ∧ z ≤ 255 := by
 unfold keyZ
 split
 ·intro z hz; cases hz
 ·exact padZ_bounds h
theorem keyZ_length {n : Nat} {key : List Int} (h : key.length ≤ n) : (keyZ n key).length ≤ n := by
 unfold keyZ
 split
 ·simp
 ·rw [padZ_length h]; exact Nat.le_refl _
end Go.Proofs.Ytahenngmaoellaa
