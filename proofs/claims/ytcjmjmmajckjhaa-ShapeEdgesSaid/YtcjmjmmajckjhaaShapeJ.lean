/- The walks of Most on both sides. No condition. -/
import Derived.Test.YtcjmjmmajckjhaaShapeI
import Derived.Shelf.Bits.Mul64
namespace Go.Proofs.Ytcjmjmmajckjhaa
open Go.ChangeShapes Go.WideShapes Go.ChangeAt Go.RowKit Go.Joins
open Go.Proofs

set_option maxHeartbeats 1000000 in
theorem mul64_any (x y : Nat) (hx : x < 18446744073709551616) (hy : y < 18446744073709551616) (w : World) :
    Calls Try.prog 70 #[.int .u64 x, .int .u64 y] w fun e w' => e = .returned (.tuple #[.int .u64 ((x * y / 18446744073709551616 : Nat) : Int), .int .u64 ((x * y % 18446744073709551616 : Nat) : Int)]) ∧ w = w' := by
  obtain ⟨bd, bt, bw, hhi⟩ := Lib.mul64_hi x y hx hy
  have ba := Lib.half_mul_le (a := x / 4294967296) (b := y / 4294967296) (by omega) (by omega)
  have bb := Lib.half_mul_le (a := x / 4294967296) (b := y % 4294967296) (by omega) (by omega)
  have bc := Lib.half_mul_le (a := x % 4294967296) (b := y / 4294967296) (by omega) (by omega)
  have ba' : x / 4294967296 * (y / 4294967296) < 18446744073709551616 := by omega
  have bb' : x / 4294967296 * (y % 4294967296) < 18446744073709551616 := by omega
  have bc' : x % 4294967296 * (y / 4294967296) < 18446744073709551616 := by omega
  have bh1 : x / 4294967296 * (y / 4294967296) + (x / 4294967296 * (y % 4294967296) + x % 4294967296 * (y % 4294967296) / 4294967296) / 4294967296 < 18446744073709551616 := by omega
  have bh : x / 4294967296 * (y / 4294967296) + (x / 4294967296 * (y % 4294967296) + x % 4294967296 * (y % 4294967296) / 4294967296) / 4294967296 + ((x / 4294967296 * (y % 4294967296) + x % 4294967296 * (y % 4294967296) / 4294967296) % 4294967296 + x % 4294967296 * (y / 4294967296)) / 4294967296 < 18446744073709551616 := by omega
  go_enter Try.func70, Try.ntmps70
  go_wp2
  simp only [Mul64.maskN x hx, Mul64.maskN y hy, Mul64.divN, Mul64.mulN, Mul64.addN, Mul64.wrapN _ bd, Mul64.wrapN _ bb', Mul64.wrapN _ bt, Mul64.maskN _ bt, Mul64.wrapN _ bc', Mul64.wrapN _ bw, Mul64.wrapN _ ba', Mul64.wrapN _ bh1, Mul64.wrapN _ bh, Mul64.wrapM (x * y)]
  rw [hhi]
  go_ret2
  exact ⟨rfl, rfl⟩
def Fits (n : Nat) : Prop := n < 18446744073709551616
instance (n : Nat) : Decidable (Fits n) := inferInstanceAs (Decidable (n < 18446744073709551616))
/-- A product, under a name that the walk leaves alone. -/
def pw (l f k : Nat) : Nat := l * f ^ k
theorem pw_succ (l f k : Nat) : pw l f k * f = pw l f (k + 1) := by rw [pw, pw, Nat.pow_succ, Nat.mul_assoc]
theorem pw_zero (l f : Nat) : pw l f 0 = l := by simp [pw]
theorem Fits.le {n : Nat} (h : Fits n) : (n : Int) ≤ 18446744073709551615 := by unfold Fits at h; omega
theorem mul64_small (x y z : Nat) (hx : Fits x) (hy : Fits y) (hz : x * y = z) (h : Fits z) (w : World) :
    Calls Try.prog 70 #[.int .u64 x, .int .u64 y] w fun e w' => e = .returned (.tuple #[.int .u64 0, .int .u64 (z : Nat)]) ∧ w = w' := by
  subst hz
  refine (mul64_any x y hx hy w).mono fun e w' h' => ⟨?_, h'.2⟩
  rw [h'.1, Nat.div_eq_of_lt h, Nat.mod_eq_of_lt h]
  rfl
theorem mul64_big (x y z : Nat) (hx : Fits x) (hy : Fits y) (hz : x * y = z) (h : ¬ Fits z) (w : World) :
    Calls Try.prog 70 #[.int .u64 x, .int .u64 y] w fun e w' => ∃ a b : Nat, e = .returned (.tuple #[.int .u64 a, .int .u64 b]) ∧ ((a : Int) != 0) = true ∧ w = w' := by
  subst hz
  refine (mul64_any x y hx hy w).mono fun e w' h' => ⟨_, _, h'.1, ?_, h'.2⟩
  unfold Fits at h
  have : 1 ≤ x * y / 18446744073709551616 := by omega
  rw [bne_iff_ne]; omega
theorem times_small (x y z : Nat) (hx : Fits x) (hy : Fits y) (h1 : 1 ≤ y) (hz : x * y = z) (h : Fits z) (w : World) :
    Calls Try.prog 71 #[.int .u64 x, .int .u64 y] w fun e w' => e = .returned (.tuple #[.int .u64 (z : Nat), .bool true]) ∧ w = w' := by
  subst hz
  have e1 : ((y : Int) != 0) = true := by rw [bne_iff_ne]; omega
  have e2 : (x : Int) ≤ 18446744073709551615 / (y : Int) := by
    have h2 : x ≤ 18446744073709551615 / y := by
      rw [Nat.le_div_iff_mul_le h1]; unfold Fits at h; omega
    have h3 : ((18446744073709551615 / y : Nat) : Int) = 18446744073709551615 / (y : Int) := Int.natCast_ediv _ _
    rw [← h3]; exact_mod_cast h2
  have hx2 := hx.le
  have hy2 := hy.le
  have hm : Hid (IntKind.u64.wrap ((x : Int) * (y : Int)) = ((x * y : Nat) : Int)) := by
    show _ = _
    rw [wrap_u64]; unfold Fits at h
    have : (x : Int) * (y : Int) = ((x * y : Nat) : Int) := (Int.natCast_mul x y).symm
    omega
  clear hx hy h
  go_enter Try.func71, Try.ntmps71
  go_wp2
  go_ret2
  exact ⟨by rw [← hm.out]; rfl, rfl⟩
theorem times_big (x y z : Nat) (hx : Fits x) (hy : Fits y) (h1 : 1 ≤ y) (hz : x * y = z) (h : ¬ Fits z) (w : World) :
    Calls Try.prog 71 #[.int .u64 x, .int .u64 y] w fun e w' => e = .returned (.tuple #[.int .u64 0, .bool false]) ∧ w = w' := by
  subst hz
  have e1 : ((y : Int) != 0) = true := by rw [bne_iff_ne]; omega
  have e2 : 18446744073709551615 / (y : Int) < (x : Int) := by
    have h2 : 18446744073709551615 / y < x := by
      rw [Nat.div_lt_iff_lt_mul h1]; unfold Fits at h; omega
    have h3 : ((18446744073709551615 / y : Nat) : Int) = 18446744073709551615 / (y : Int) := Int.natCast_ediv _ _
    rw [← h3]; exact_mod_cast h2
  have hx2 := hx.le
  have hy2 := hy.le
  clear hx hy h
  go_enter Try.func71, Try.ntmps71
  go_wp2
  go_ret2
  exact ⟨rfl, rfl⟩

/-- What Most answers. -/
def TreeV.most (t : TreeV) (r : Int) : Nat × Bool × Int :=
  if t.validE ≠ 0 then (0, false, t.validE)
  else if r < 2 ∨ t.p < r then (0, false, 1)
  else if t.f = 0 ∨ r = t.p then (0, false, 0)
  else if Fits (pw t.ln t.fn (r.toNat - 1)) then (pw t.ln t.fn (r.toNat - 1), true, 0)
  else (0, false, 0)
theorem pow_more {l f j k : Nat} (hf : 1 ≤ f) (hjk : j ≤ k) (h : ¬ Fits (pw l f j)) : ¬ Fits (pw l f k) := by
  intro h2
  apply h
  unfold Fits pw at *
  have := Nat.mul_le_mul_left l (Nat.pow_le_pow_right hf hjk)
  omega
theorem ret_t3 {k : IntKind} {a b : Int} {c d : Bool} {e f : Int} (h1 : a = b) (h2 : c = d) (h3 : e = f) : Ending.returned (.tuple #[.int k a, .bool c, .int .i64 e]) = .returned (.tuple #[.int k b, .bool d, .int .i64 f]) := by rw [h1, h2, h3]
end Go.Proofs.Ytcjmjmmajckjhaa
