/- Small functions over blocks of parameters, by the program and by the reference. No condition. -/
import Derived.Test.YtahenngmaoellaaN07
import Derived.Test.YtahenngmaoellaaN08
set_option linter.all false
set_option maxRecDepth 100000
set_option maxHeartbeats 8000000
namespace Go.Proofs.Ytahenngmaoellaa
open Go.ChangeShapes Go.WideShapes Go.ChangeAt Go.RowKit Go.Joins Go.Shelf Go.Maps
open Go.Lib (hid)
attribute [local go_sem] Oper.semAt_some
/-- A kind's number, the bytes of its block (and the most of a digest), the bytes of a salt. -/
def kB (big : Bool) : Int := cond big 1 2
def mB (big : Bool) : Nat := cond big 64 32
def sB (big : Bool) : Nat := cond big 16 8
theorem sizes_ok (big : Bool) (w : World) :
  Calls Try.prog 37 #[.int .i64 (kB big)] w fun e w' => e = .returned (.tuple #[.int .i64 (mB big : Nat), .int .i64 (mB big : Nat), .int .i64 (sB big : Nat)]) ∧ w' = w := by
 cases big <;>
 ·simp only [kB, mB, sB, cond]
  go_enter Try.func37, Try.ntmps37
  go_wp2
  exact bodyPost_ret (results_tmp3 (fn := Try.f37) (t := 2) (u := 3) (v := 4) rfl _ _ _) rfl ⟨rfl, rfl⟩
theorem within_ok (n lo hi : Int) (b : Bool) (hb : b = decide (lo ≤ n ∧ n ≤ hi)) (w : World) :
  Calls Try.prog 51 #[.int .i64 n, .int .i64 lo, .int .i64 hi] w fun e w' => e = .returned (.bool b) ∧ w' = w := by
 subst hb
 by_cases h1 : lo ≤ n
 ·by_cases h2 : n ≤ hi
  ·rw [decide_eq_true (And.intro h1 h2)]
   go_enter Try.func51, Try.ntmps51
   go_wp2
   go_ret
   exact ⟨rfl, rfl⟩
  ·rw [decide_eq_false (fun h : lo ≤ n ∧ n ≤ hi => h2 h.2)]
   go_enter Try.func51, Try.ntmps51
   go_wp2
   go_ret
   exact ⟨rfl, rfl⟩
 ·rw [decide_eq_false (fun h : lo ≤ n ∧ n ≤ hi => h1 h.1)]
  go_enter Try.func51, Try.ntmps51
  go_wp2
  go_ret
  exact ⟨rfl, rfl⟩
theorem get_ok (zs : List Int) (v : Value) (at_ n : Nat) (w : World) (h : Holds8 w v zs) (hz : ∀ z ∈ zs, 0 ≤ z ∧ z ≤ 255) (hn : 1 ≤ n ∧ n ≤ 8) (hl : at_ + n ≤ zs.length) (hm : zs.length ≤ 4294967296) :
  Calls Try.prog 41 #[v, .int .i64 (at_ : Nat), .int .i64 (n : Nat)] w fun e w' => e = .returned (.int .u64 (valZ zs at_ n)) ∧ w' = w := by
 obtain ⟨a, cap, rfl, h⟩ := h
 obtain ⟨b, off, rfl, h1, h2⟩ := h.resolve_left (fun e => by rw [e] at hl; simp at hl; omega)
 have HC := hid h2
 clear h h2
 go_enter Try.func41, Try.ntmps41
 go_wp2_with fail
 go_loopw [7, 10] (fun s i wr => ∃ k : Nat, s = .int .u64 (valZ zs at_ k) ∧ i = .int .i64 k ∧ w = wr ∧ k ≤ n) (fun _ i _ => n - (intOf i).toNat)
 case atStart => exact ⟨0, rfl, rfl, rfl, by omega⟩
 case round =>
  obtain ⟨k, rfl, rfl, rfl, hk⟩ := hrel
  by_cases hlt : k < n
  ·have hc := HC.out (at_ + k) (by omega)
   have hv := orZ (valZ zs at_ k) (nthz zs (at_ + k)) k (by omega) (valZ_bounds hz k (by omega)) (mem_nthz hz (by omega)).2
   go_wp2
   exact ⟨⟨k + 1, rfl, rfl, by trivial, by omega⟩, by simp [intOf]; omega⟩
  ·obtain rfl : k = n := by omega
   go_wp2
   go_ret
   exact ⟨rfl, rfl⟩
/-- Parameters, as a value. -/
def parV (dg ky fo dp lf ofs xo nd inr : Int) (sa pe : Value) : Value := .agg #[.int .i64 dg, .int .i64 ky, .int .i64 fo, .int .i64 dp, .int .u32 lf, .int .u64 ofs, .int .u32 xo, .int .i64 nd, .int .i64 inr, sa, pe]
/-- What of a block's numbers may fail. -/
def okC (big : Bool) (dg ky dp xo inr : Int) : Prop := (1 ≤ dg ∧ dg ≤ (mB big : Nat)) ∧ (0 ≤ ky ∧ ky ≤ (mB big : Nat)) ∧ (xo = 0 → 1 ≤ dp) ∧ (0 ≤ inr ∧ inr ≤ (mB big : Nat))
/-- The numbers that a block of the plain form holds. -/
structure okP (big : Bool) (dg ky fo dp ofs nd inr : Int) : Prop where
 dg : 1 ≤ dg ∧ dg ≤ (mB big : Nat)
 ky : 0 ≤ ky ∧ ky ≤ (mB big : Nat)
 fo : 0 ≤ fo ∧ fo ≤ 255
 dp : 1 ≤ dp ∧ dp ≤ 255
 ofs : 0 ≤ ofs ∧ (big = false → ofs < 281474976710656)
 nd : 0 ≤ nd ∧ nd ≤ 255
 inr : 0 ≤ inr ∧ inr ≤ (mB big : Nat)
theorem check_ok (big : Bool) (dg ky fo dp lf ofs nd inr : Int) (a1 a2 : Option Addr) (l1 l2 c1 c2 : Nat) (w : World) (h : okP big dg ky fo dp ofs nd inr) (hl1 : l1 ≤ sB big) (hl2 : l2 ≤ sB big) :
  Calls Try.prog 42 #[.int .i64 (kB big), parV dg ky fo dp lf ofs 0 nd inr (.slice a1 l1 c1) (.slice a2 l2 c2)] w fun e w' => e = .returned (.int .i64 0) ∧ Below w.heap.size w w' := by
 obtain ⟨q1, q2, q3, q4, ⟨q5, q6⟩, q7, q8⟩ := h
 have hs := fun w => sizes_ok big w
 unfold parV
 cases big
 all_goals
  first
  | (have q9 := q6 rfl)
  | skip
  clear q6
  simp only [kB, mB, sB, cond] at hs q1 q2 q8 hl1 hl2 ⊢
  go_enter Try.func42, Try.ntmps42
  go_wp2_with fail
  refine (hs _).mono ?_; rintro e w1 ⟨rfl, rfl⟩
  iterate 6
   go_wp2_with fail
   refine (within_ok _ _ _ true (decide_eq_true (by omega)).symm _).mono ?_; rintro e w2 ⟨rfl, rfl⟩
  go_wp2_with fail
  go_ret
  exact ⟨rfl, (Below.refl _ _).alloc (Nat.le_refl _) _⟩
end Go.Proofs.Ytahenngmaoellaa
