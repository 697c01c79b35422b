/- Whether parameters may be (those that a block can hold), by the program and by the reference. No condition. -/
import Derived.Test.YtjogmckaakkomaaGreatK21
namespace Go.Proofs.YtjogmckaakkomaaGreat
open Go.ChangeShapes Go.WideShapes Go.ChangeAt Go.RowKit Go.Joins Go.Shelf Go.Maps
attribute [local go_sem] Oper.semAt_some

/-- Parameters, as a value. -/
def parV (dg ky fo dp lf ofs xo nd inr : Int) (sa pe : Value) : Value := .agg #[.int .i64 dg, .int .i64 ky, .int .i64 fo, .int .i64 dp, .int .u32 lf, .int .u64 ofs, .int .u32 xo, .int .i64 nd, .int .i64 inr, sa, pe]
/-- What of a block's numbers may fail. -/
def okC (big : Bool) (dg ky dp xo inr : Int) : Prop := (1 ≤ dg ∧ dg ≤ (mB big : Nat)) ∧ (0 ≤ ky ∧ ky ≤ (mB big : Nat)) ∧ (xo = 0 → 1 ≤ dp) ∧ (0 ≤ inr ∧ inr ≤ (mB big : Nat))
set_option maxRecDepth 100000 in
set_option maxHeartbeats 1000000 in
theorem check_any (big : Bool) (dg ky fo dp lf ofs xo nd inr : Int) (a1 a2 : Option Addr) (l1 l2 c1 c2 : Nat) (w : World)
  (hdp : 0 ≤ dp ∧ dp ≤ 255) (hfo : 0 ≤ fo ∧ fo ≤ 255) (hnd : 0 ≤ nd ∧ nd ≤ 255) (hof : 0 ≤ ofs ∧ (xo ≠ 0 → ofs < 4294967296) ∧ (big = false → ofs < 281474976710656)) (hxo : 0 ≤ xo ∧ (big = false → xo ≤ 65535)) (hl1 : l1 ≤ sB big) (hl2 : l2 ≤ sB big) :
  Calls Tryz.prog 59 #[.int .i64 (kB big), parV dg ky fo dp lf ofs xo nd inr (.slice a1 l1 c1) (.slice a2 l2 c2)] w fun e w' => (∃ n, e = .returned (.int .i64 n) ∧ (n = 0 ↔ okC big dg ky dp xo inr)) ∧ Below w.heap.size w w' := by
 obtain ⟨hd1, hd2⟩ := hdp
 obtain ⟨ho1, ho2, ho3⟩ := hof
 obtain ⟨hx1, hx2⟩ := hxo
 unfold parV okC
 cases big
 case false =>
  have hs : ∀ w : World, Calls Tryz.prog 56 #[.int .i64 2] w fun e w' => e = .returned (.tuple #[.int .i64 32, .int .i64 32, .int .i64 8]) ∧ w' = w := sizes_ok false
  have ho4 := ho3 rfl
  have hx4 := hx2 rfl
  change l1 ≤ 8 at hl1; change l2 ≤ 8 at hl2
  change Calls _ _ #[.int .i64 2, _] _ fun e w' => (∃ n, e = .returned (.int .i64 n) ∧ (n = 0 ↔ (1 ≤ dg ∧ dg ≤ 32) ∧ (0 ≤ ky ∧ ky ≤ 32) ∧ (xo = 0 → 1 ≤ dp) ∧ (0 ≤ inr ∧ inr ≤ 32))) ∧ _
  clear ho3 hx2
  by_cases hx : xo = 0
  case pos =>
   subst hx
   by_cases q1 : 1 ≤ dg ∧ dg ≤ 32
   case neg =>
    go_enter Tryz.func59, Tryz.ntmps59
    go_wp2_with fail
    refine (hs _).mono ?_; rintro e w1 ⟨rfl, rfl⟩
    go_wp2_with fail
    refine (within_ok dg 1 32 false (decide_eq_false q1).symm _).mono ?_; rintro e w2 ⟨rfl, rfl⟩
    go_wp2_with fail
    go_ret
    exact ⟨⟨20, rfl, by omega⟩, (Below.refl _ _).alloc (Nat.le_refl _) _⟩
   case pos =>
    by_cases q2 : 0 ≤ ky ∧ ky ≤ 32
    case neg =>
     go_enter Tryz.func59, Tryz.ntmps59
     go_wp2_with fail
     refine (hs _).mono ?_; rintro e w1 ⟨rfl, rfl⟩
     go_wp2_with fail
     refine (within_ok dg 1 32 true (decide_eq_true q1).symm _).mono ?_; rintro e w2 ⟨rfl, rfl⟩
     go_wp2_with fail
     refine (within_ok ky 0 32 false (decide_eq_false q2).symm _).mono ?_; rintro e w2 ⟨rfl, rfl⟩
     go_wp2_with fail
     go_ret
     exact ⟨⟨8, rfl, by omega⟩, (Below.refl _ _).alloc (Nat.le_refl _) _⟩
    case pos =>
     by_cases q3 : 1 ≤ dp ∧ dp ≤ 255
     case neg =>
      go_enter Tryz.func59, Tryz.ntmps59
      go_wp2_with fail
      refine (hs _).mono ?_; rintro e w1 ⟨rfl, rfl⟩
      go_wp2_with fail
      refine (within_ok dg 1 32 true (decide_eq_true q1).symm _).mono ?_; rintro e w2 ⟨rfl, rfl⟩
      go_wp2_with fail
      refine (within_ok ky 0 32 true (decide_eq_true q2).symm _).mono ?_; rintro e w2 ⟨rfl, rfl⟩
      go_wp2_with fail
      refine (within_ok fo 0 255 true (decide_eq_true hfo).symm _).mono ?_; rintro e w2 ⟨rfl, rfl⟩
      go_wp2_with fail
      refine (within_ok dp (1) 255 false (decide_eq_false q3).symm _).mono ?_; rintro e w2 ⟨rfl, rfl⟩
      go_wp2_with fail
      go_ret
      exact ⟨⟨22, rfl, ⟨fun h => (by cases h), fun h => absurd ⟨h.2.2.1 (by trivial), hd2⟩ q3⟩⟩, (Below.refl _ _).alloc (Nat.le_refl _) _⟩
     case pos =>
      by_cases q4 : 0 ≤ inr ∧ inr ≤ 32
      case neg =>
       go_enter Tryz.func59, Tryz.ntmps59
       go_wp2_with fail
       refine (hs _).mono ?_; rintro e w1 ⟨rfl, rfl⟩
       go_wp2_with fail
       refine (within_ok dg 1 32 true (decide_eq_true q1).symm _).mono ?_; rintro e w2 ⟨rfl, rfl⟩
       go_wp2_with fail
       refine (within_ok ky 0 32 true (decide_eq_true q2).symm _).mono ?_; rintro e w2 ⟨rfl, rfl⟩
       go_wp2_with fail
       refine (within_ok fo 0 255 true (decide_eq_true hfo).symm _).mono ?_; rintro e w2 ⟨rfl, rfl⟩
       go_wp2_with fail
       refine (within_ok dp (1) 255 true (decide_eq_true q3).symm _).mono ?_; rintro e w2 ⟨rfl, rfl⟩
       go_wp2_with fail
       refine (within_ok nd 0 255 true (decide_eq_true hnd).symm _).mono ?_; rintro e w2 ⟨rfl, rfl⟩
       go_wp2_with fail
       refine (within_ok inr 0 32 false (decide_eq_false q4).symm _).mono ?_; rintro e w2 ⟨rfl, rfl⟩
       go_wp2_with fail
       go_ret
       exact ⟨⟨26, rfl, by omega⟩, (Below.refl _ _).alloc (Nat.le_refl _) _⟩
      case pos =>
       go_enter Tryz.func59, Tryz.ntmps59
       go_wp2_with fail
       refine (hs _).mono ?_; rintro e w1 ⟨rfl, rfl⟩
       go_wp2_with fail
       refine (within_ok dg 1 32 true (decide_eq_true q1).symm _).mono ?_; rintro e w2 ⟨rfl, rfl⟩
       go_wp2_with fail
       refine (within_ok ky 0 32 true (decide_eq_true q2).symm _).mono ?_; rintro e w2 ⟨rfl, rfl⟩
       go_wp2_with fail
       refine (within_ok fo 0 255 true (decide_eq_true hfo).symm _).mono ?_; rintro e w2 ⟨rfl, rfl⟩
       go_wp2_with fail
       refine (within_ok dp (1) 255 true (decide_eq_true q3).symm _).mono ?_; rintro e w2 ⟨rfl, rfl⟩
       go_wp2_with fail
       refine (within_ok nd 0 255 true (decide_eq_true hnd).symm _).mono ?_; rintro e w2 ⟨rfl, rfl⟩
       go_wp2_with fail
       refine (within_ok inr 0 32 true (decide_eq_true q4).symm _).mono ?_; rintro e w2 ⟨rfl, rfl⟩
       go_wp2_with fail
       go_ret
       exact ⟨⟨0, rfl, ⟨fun _ => ⟨q1, q2, fun h => by omega, q4⟩, fun _ => rfl⟩⟩, (Below.refl _ _).alloc (Nat.le_refl _) _⟩
  case neg =>
   have hx5 := ho2 hx
   by_cases q1 : 1 ≤ dg ∧ dg ≤ 32
   case neg =>
    go_enter Tryz.func59, Tryz.ntmps59
    go_wp2_with fail
    refine (hs _).mono ?_; rintro e w1 ⟨rfl, rfl⟩
    go_wp2_with fail
    refine (within_ok dg 1 32 false (decide_eq_false q1).symm _).mono ?_; rintro e w2 ⟨rfl, rfl⟩
    go_wp2_with fail
    go_ret
    exact ⟨⟨20, rfl, by omega⟩, (Below.refl _ _).alloc (Nat.le_refl _) _⟩
   case pos =>
    by_cases q2 : 0 ≤ ky ∧ ky ≤ 32
    case neg =>
     go_enter Tryz.func59, Tryz.ntmps59
     go_wp2_with fail
     refine (hs _).mono ?_; rintro e w1 ⟨rfl, rfl⟩
     go_wp2_with fail
     refine (within_ok dg 1 32 true (decide_eq_true q1).symm _).mono ?_; rintro e w2 ⟨rfl, rfl⟩
     go_wp2_with fail
     refine (within_ok ky 0 32 false (decide_eq_false q2).symm _).mono ?_; rintro e w2 ⟨rfl, rfl⟩
     go_wp2_with fail
     go_ret
     exact ⟨⟨8, rfl, by omega⟩, (Below.refl _ _).alloc (Nat.le_refl _) _⟩
    case pos =>
     have q3 : 0 ≤ dp ∧ dp ≤ 255 := by omega
     by_cases q4 : 0 ≤ inr ∧ inr ≤ 32
     case neg =>
      go_enter Tryz.func59, Tryz.ntmps59
      go_wp2_with fail
      refine (hs _).mono ?_; rintro e w1 ⟨rfl, rfl⟩
      go_wp2_with fail
      refine (within_ok dg 1 32 true (decide_eq_true q1).symm _).mono ?_; rintro e w2 ⟨rfl, rfl⟩
      go_wp2_with fail
      refine (within_ok ky 0 32 true (decide_eq_true q2).symm _).mono ?_; rintro e w2 ⟨rfl, rfl⟩
      go_wp2_with fail
      refine (within_ok fo 0 255 true (decide_eq_true hfo).symm _).mono ?_; rintro e w2 ⟨rfl, rfl⟩
      go_wp2_with fail
      refine (within_ok dp (0) 255 true (decide_eq_true q3).symm _).mono ?_; rintro e w2 ⟨rfl, rfl⟩
      go_wp2_with fail
      refine (within_ok nd 0 255 true (decide_eq_true hnd).symm _).mono ?_; rintro e w2 ⟨rfl, rfl⟩
      go_wp2_with fail
      refine (within_ok inr 0 32 false (decide_eq_false q4).symm _).mono ?_; rintro e w2 ⟨rfl, rfl⟩
      go_wp2_with fail
      go_ret
      exact ⟨⟨26, rfl, by omega⟩, (Below.refl _ _).alloc (Nat.le_refl _) _⟩
     case pos =>
      go_enter Tryz.func59, Tryz.ntmps59
      go_wp2_with fail
      refine (hs _).mono ?_; rintro e w1 ⟨rfl, rfl⟩
      go_wp2_with fail
      refine (within_ok dg 1 32 true (decide_eq_true q1).symm _).mono ?_; rintro e w2 ⟨rfl, rfl⟩
      go_wp2_with fail
      refine (within_ok ky 0 32 true (decide_eq_true q2).symm _).mono ?_; rintro e w2 ⟨rfl, rfl⟩
      go_wp2_with fail
      refine (within_ok fo 0 255 true (decide_eq_true hfo).symm _).mono ?_; rintro e w2 ⟨rfl, rfl⟩
      go_wp2_with fail
      refine (within_ok dp (0) 255 true (decide_eq_true q3).symm _).mono ?_; rintro e w2 ⟨rfl, rfl⟩
      go_wp2_with fail
      refine (within_ok nd 0 255 true (decide_eq_true hnd).symm _).mono ?_; rintro e w2 ⟨rfl, rfl⟩
      go_wp2_with fail
      refine (within_ok inr 0 32 true (decide_eq_true q4).symm _).mono ?_; rintro e w2 ⟨rfl, rfl⟩
      go_wp2_with fail
      go_ret
      exact ⟨⟨0, rfl, ⟨fun _ => ⟨q1, q2, fun h => by omega, q4⟩, fun _ => rfl⟩⟩, (Below.refl _ _).alloc (Nat.le_refl _) _⟩
 case true =>
  have hs : ∀ w : World, Calls Tryz.prog 56 #[.int .i64 1] w fun e w' => e = .returned (.tuple #[.int .i64 64, .int .i64 64, .int .i64 16]) ∧ w' = w := sizes_ok true
  change l1 ≤ 16 at hl1; change l2 ≤ 16 at hl2
  change Calls _ _ #[.int .i64 1, _] _ fun e w' => (∃ n, e = .returned (.int .i64 n) ∧ (n = 0 ↔ (1 ≤ dg ∧ dg ≤ 64) ∧ (0 ≤ ky ∧ ky ≤ 64) ∧ (xo = 0 → 1 ≤ dp) ∧ (0 ≤ inr ∧ inr ≤ 64))) ∧ _
  clear ho3 hx2
  by_cases hx : xo = 0
  case pos =>
   subst hx
   by_cases q1 : 1 ≤ dg ∧ dg ≤ 64
   case neg =>
    go_enter Tryz.func59, Tryz.ntmps59
    go_wp2_with fail
    refine (hs _).mono ?_; rintro e w1 ⟨rfl, rfl⟩
    go_wp2_with fail
    refine (within_ok dg 1 64 false (decide_eq_false q1).symm _).mono ?_; rintro e w2 ⟨rfl, rfl⟩
    go_wp2_with fail
    go_ret
    exact ⟨⟨20, rfl, by omega⟩, (Below.refl _ _).alloc (Nat.le_refl _) _⟩
   case pos =>
    by_cases q2 : 0 ≤ ky ∧ ky ≤ 64
    case neg =>
     go_enter Tryz.func59, Tryz.ntmps59
     go_wp2_with fail
     refine (hs _).mono ?_; rintro e w1 ⟨rfl, rfl⟩
     go_wp2_with fail
     refine (within_ok dg 1 64 true (decide_eq_true q1).symm _).mono ?_; rintro e w2 ⟨rfl, rfl⟩
     go_wp2_with fail
     refine (within_ok ky 0 64 false (decide_eq_false q2).symm _).mono ?_; rintro e w2 ⟨rfl, rfl⟩
     go_wp2_with fail
     go_ret
     exact ⟨⟨8, rfl, by omega⟩, (Below.refl _ _).alloc (Nat.le_refl _) _⟩
    case pos =>
     by_cases q3 : 1 ≤ dp ∧ dp ≤ 255
     case neg =>
      go_enter Tryz.func59, Tryz.ntmps59
      go_wp2_with fail
      refine (hs _).mono ?_; rintro e w1 ⟨rfl, rfl⟩
      go_wp2_with fail
      refine (within_ok dg 1 64 true (decide_eq_true q1).symm _).mono ?_; rintro e w2 ⟨rfl, rfl⟩
      go_wp2_with fail
      refine (within_ok ky 0 64 true (decide_eq_true q2).symm _).mono ?_; rintro e w2 ⟨rfl, rfl⟩
      go_wp2_with fail
      refine (within_ok fo 0 255 true (decide_eq_true hfo).symm _).mono ?_; rintro e w2 ⟨rfl, rfl⟩
      go_wp2_with fail
      refine (within_ok dp (1) 255 false (decide_eq_false q3).symm _).mono ?_; rintro e w2 ⟨rfl, rfl⟩
      go_wp2_with fail
      go_ret
      exact ⟨⟨22, rfl, ⟨fun h => (by cases h), fun h => absurd ⟨h.2.2.1 (by trivial), hd2⟩ q3⟩⟩, (Below.refl _ _).alloc (Nat.le_refl _) _⟩
     case pos =>
      by_cases q4 : 0 ≤ inr ∧ inr ≤ 64
      case neg =>
       go_enter Tryz.func59, Tryz.ntmps59
       go_wp2_with fail
       refine (hs _).mono ?_; rintro e w1 ⟨rfl, rfl⟩
       go_wp2_with fail
       refine (within_ok dg 1 64 true (decide_eq_true q1).symm _).mono ?_; rintro e w2 ⟨rfl, rfl⟩
       go_wp2_with fail
       refine (within_ok ky 0 64 true (decide_eq_true q2).symm _).mono ?_; rintro e w2 ⟨rfl, rfl⟩
       go_wp2_with fail
       refine (within_ok fo 0 255 true (decide_eq_true hfo).symm _).mono ?_; rintro e w2 ⟨rfl, rfl⟩
       go_wp2_with fail
       refine (within_ok dp (1) 255 true (decide_eq_true q3).symm _).mono ?_; rintro e w2 ⟨rfl, rfl⟩
       go_wp2_with fail
       refine (within_ok nd 0 255 true (decide_eq_true hnd).symm _).mono ?_; rintro e w2 ⟨rfl, rfl⟩
       go_wp2_with fail
       refine (within_ok inr 0 64 false (decide_eq_false q4).symm _).mono ?_; rintro e w2 ⟨rfl, rfl⟩
       go_wp2_with fail
       go_ret
       exact ⟨⟨26, rfl, by omega⟩, (Below.refl _ _).alloc (Nat.le_refl _) _⟩
      case pos =>
       go_enter Tryz.func59, Tryz.ntmps59
       go_wp2_with fail
       refine (hs _).mono ?_; rintro e w1 ⟨rfl, rfl⟩
       go_wp2_with fail
       refine (within_ok dg 1 64 true (decide_eq_true q1).symm _).mono ?_; rintro e w2 ⟨rfl, rfl⟩
       go_wp2_with fail
       refine (within_ok ky 0 64 true (decide_eq_true q2).symm _).mono ?_; rintro e w2 ⟨rfl, rfl⟩
       go_wp2_with fail
       refine (within_ok fo 0 255 true (decide_eq_true hfo).symm _).mono ?_; rintro e w2 ⟨rfl, rfl⟩
       go_wp2_with fail
       refine (within_ok dp (1) 255 true (decide_eq_true q3).symm _).mono ?_; rintro e w2 ⟨rfl, rfl⟩
       go_wp2_with fail
       refine (within_ok nd 0 255 true (decide_eq_true hnd).symm _).mono ?_; rintro e w2 ⟨rfl, rfl⟩
       go_wp2_with fail
       refine (within_ok inr 0 64 true (decide_eq_true q4).symm _).mono ?_; rintro e w2 ⟨rfl, rfl⟩
       go_wp2_with fail
       go_ret
       exact ⟨⟨0, rfl, ⟨fun _ => ⟨q1, q2, fun h => by omega, q4⟩, fun _ => rfl⟩⟩, (Below.refl _ _).alloc (Nat.le_refl _) _⟩
  case neg =>
   have hx5 := ho2 hx
   by_cases q1 : 1 ≤ dg ∧ dg ≤ 64
   case neg =>
    go_enter Tryz.func59, Tryz.ntmps59
    go_wp2_with fail
    refine (hs _).mono ?_; rintro e w1 ⟨rfl, rfl⟩
    go_wp2_with fail
    refine (within_ok dg 1 64 false (decide_eq_false q1).symm _).mono ?_; rintro e w2 ⟨rfl, rfl⟩
    go_wp2_with fail
    go_ret
    exact ⟨⟨20, rfl, by omega⟩, (Below.refl _ _).alloc (Nat.le_refl _) _⟩
   case pos =>
    by_cases q2 : 0 ≤ ky ∧ ky ≤ 64
    case neg =>
     go_enter Tryz.func59, Tryz.ntmps59
     go_wp2_with fail
     refine (hs _).mono ?_; rintro e w1 ⟨rfl, rfl⟩
     go_wp2_with fail
     refine (within_ok dg 1 64 true (decide_eq_true q1).symm _).mono ?_; rintro e w2 ⟨rfl, rfl⟩
     go_wp2_with fail
     refine (within_ok ky 0 64 false (decide_eq_false q2).symm _).mono ?_; rintro e w2 ⟨rfl, rfl⟩
     go_wp2_with fail
     go_ret
     exact ⟨⟨8, rfl, by omega⟩, (Below.refl _ _).alloc (Nat.le_refl _) _⟩
    case pos =>
     have q3 : 0 ≤ dp ∧ dp ≤ 255 := by omega
     by_cases q4 : 0 ≤ inr ∧ inr ≤ 64
     case neg =>
      go_enter Tryz.func59, Tryz.ntmps59
      go_wp2_with fail
      refine (hs _).mono ?_; rintro e w1 ⟨rfl, rfl⟩
      go_wp2_with fail
      refine (within_ok dg 1 64 true (decide_eq_true q1).symm _).mono ?_; rintro e w2 ⟨rfl, rfl⟩
      go_wp2_with fail
      refine (within_ok ky 0 64 true (decide_eq_true q2).symm _).mono ?_; rintro e w2 ⟨rfl, rfl⟩
      go_wp2_with fail
      refine (within_ok fo 0 255 true (decide_eq_true hfo).symm _).mono ?_; rintro e w2 ⟨rfl, rfl⟩
      go_wp2_with fail
      refine (within_ok dp (0) 255 true (decide_eq_true q3).symm _).mono ?_; rintro e w2 ⟨rfl, rfl⟩
      go_wp2_with fail
      refine (within_ok nd 0 255 true (decide_eq_true hnd).symm _).mono ?_; rintro e w2 ⟨rfl, rfl⟩
      go_wp2_with fail
      refine (within_ok inr 0 64 false (decide_eq_false q4).symm _).mono ?_; rintro e w2 ⟨rfl, rfl⟩
      go_wp2_with fail
      go_ret
      exact ⟨⟨26, rfl, by omega⟩, (Below.refl _ _).alloc (Nat.le_refl _) _⟩
     case pos =>
      go_enter Tryz.func59, Tryz.ntmps59
      go_wp2_with fail
      refine (hs _).mono ?_; rintro e w1 ⟨rfl, rfl⟩
      go_wp2_with fail
      refine (within_ok dg 1 64 true (decide_eq_true q1).symm _).mono ?_; rintro e w2 ⟨rfl, rfl⟩
      go_wp2_with fail
      refine (within_ok ky 0 64 true (decide_eq_true q2).symm _).mono ?_; rintro e w2 ⟨rfl, rfl⟩
      go_wp2_with fail
      refine (within_ok fo 0 255 true (decide_eq_true hfo).symm _).mono ?_; rintro e w2 ⟨rfl, rfl⟩
      go_wp2_with fail
      refine (within_ok dp (0) 255 true (decide_eq_true q3).symm _).mono ?_; rintro e w2 ⟨rfl, rfl⟩
      go_wp2_with fail
      refine (within_ok nd 0 255 true (decide_eq_true hnd).symm _).mono ?_; rintro e w2 ⟨rfl, rfl⟩
      go_wp2_with fail
      refine (within_ok inr 0 64 true (decide_eq_true q4).symm _).mono ?_; rintro e w2 ⟨rfl, rfl⟩
      go_wp2_with fail
      go_ret
      exact ⟨⟨0, rfl, ⟨fun _ => ⟨q1, q2, fun h => by omega, q4⟩, fun _ => rfl⟩⟩, (Below.refl _ _).alloc (Nat.le_refl _) _⟩
set_option maxRecDepth 100000 in
set_option maxHeartbeats 4000000 in
theorem refCheck_any (big : Bool) (dg ky fo dp lf ofs xo nd inr : Int) (a1 a2 : Option Addr) (l1 l2 c1 c2 : Nat) (w : World)
  (hdp : 0 ≤ dp ∧ dp ≤ 255) (hfo : 0 ≤ fo ∧ fo ≤ 255) (hnd : 0 ≤ nd ∧ nd ≤ 255) (hof : 0 ≤ ofs ∧ (xo ≠ 0 → ofs < 4294967296) ∧ (big = false → ofs < 281474976710656)) (hxo : 0 ≤ xo ∧ (big = false → xo ≤ 65535)) (hl1 : l1 ≤ sB big) (hl2 : l2 ≤ sB big) :
  Calls Tryz.prog 85 #[.int .i64 (kB big), parV dg ky fo dp lf ofs xo nd inr (.slice a1 l1 c1) (.slice a2 l2 c2)] w fun e w' => (∃ n, e = .returned (.int .i64 n) ∧ (n = 0 ↔ okC big dg ky dp xo inr)) ∧ Below w.heap.size w w' := by
 obtain ⟨hd1, hd2⟩ := hdp
 obtain ⟨hf1, hf2⟩ := hfo
 obtain ⟨hn1, hn2⟩ := hnd
 obtain ⟨ho1, ho2, ho3⟩ := hof
 obtain ⟨hx1, hx2⟩ := hxo
 unfold parV okC
 cases big
 case false =>
  have hs : ∀ w : World, Calls Tryz.prog 83 #[.int .i64 2] w fun e w' => e = .returned (.int .i64 32) ∧ w' = w := refMost_ok false
  have ho4 := ho3 rfl
  have hx4 := hx2 rfl
  change l1 ≤ 8 at hl1; change l2 ≤ 8 at hl2
  change Calls _ _ #[.int .i64 2, _] _ fun e w' => (∃ n, e = .returned (.int .i64 n) ∧ (n = 0 ↔ (1 ≤ dg ∧ dg ≤ 32) ∧ (0 ≤ ky ∧ ky ≤ 32) ∧ (xo = 0 → 1 ≤ dp) ∧ (0 ≤ inr ∧ inr ≤ 32))) ∧ _
  clear ho3 hx2
  by_cases hx : xo = 0
  case pos =>
   subst hx
   by_cases a1 : dg < 1
   case pos =>
    go_enter Tryz.func85, Tryz.ntmps85
    go_wp2_with fail
    refine (hs _).mono ?_; rintro e w1 ⟨rfl, rfl⟩
    go_wp2_with fail
    go_ret
    exact ⟨⟨20, rfl, by omega⟩, (Below.refl _ _).alloc (Nat.le_refl _) _⟩
   case neg =>
    by_cases a2 : 32 < dg
    case pos =>
     go_enter Tryz.func85, Tryz.ntmps85
     go_wp2_with fail
     refine (hs _).mono ?_; rintro e w1 ⟨rfl, rfl⟩
     go_wp2_with fail
     go_ret
     exact ⟨⟨20, rfl, by omega⟩, (Below.refl _ _).alloc (Nat.le_refl _) _⟩
    case neg =>
     by_cases a3 : ky < 0
     case pos =>
      go_enter Tryz.func85, Tryz.ntmps85
      go_wp2_with fail
      refine (hs _).mono ?_; rintro e w1 ⟨rfl, rfl⟩
      go_wp2_with fail
      go_ret
      exact ⟨⟨8, rfl, by omega⟩, (Below.refl _ _).alloc (Nat.le_refl _) _⟩
     case neg =>
      by_cases a4 : 32 < ky
      case pos =>
       go_enter Tryz.func85, Tryz.ntmps85
       go_wp2_with fail
       refine (hs _).mono ?_; rintro e w1 ⟨rfl, rfl⟩
       go_wp2_with fail
       go_ret
       exact ⟨⟨8, rfl, by omega⟩, (Below.refl _ _).alloc (Nat.le_refl _) _⟩
      case neg =>
       by_cases q3 : dp < 1
       case pos =>
        obtain rfl : dp = 0 := by omega
        go_enter Tryz.func85, Tryz.ntmps85
        go_wp2_with fail
        refine (hs _).mono ?_; rintro e w1 ⟨rfl, rfl⟩
        go_wp2_with fail
        go_ret
        exact ⟨⟨22, rfl, ⟨fun h => (by cases h), fun h => by have := h.2.2.1 (by trivial); omega⟩⟩, (Below.refl _ _).alloc (Nat.le_refl _) _⟩
       case neg =>
        by_cases a5 : inr < 0
        case pos =>
         go_enter Tryz.func85, Tryz.ntmps85
         go_wp2_with fail
         refine (hs _).mono ?_; rintro e w1 ⟨rfl, rfl⟩
         go_wp2_with fail
         go_ret
         exact ⟨⟨26, rfl, by omega⟩, (Below.refl _ _).alloc (Nat.le_refl _) _⟩
        case neg =>
         by_cases a6 : 32 < inr
         case pos =>
          go_enter Tryz.func85, Tryz.ntmps85
          go_wp2_with fail
          refine (hs _).mono ?_; rintro e w1 ⟨rfl, rfl⟩
          go_wp2_with fail
          go_ret
          exact ⟨⟨26, rfl, by omega⟩, (Below.refl _ _).alloc (Nat.le_refl _) _⟩
         case neg =>
          go_enter Tryz.func85, Tryz.ntmps85
          go_wp2_with fail
          refine (hs _).mono ?_; rintro e w1 ⟨rfl, rfl⟩
          go_wp2_with fail
          go_ret
          exact ⟨⟨0, rfl, ⟨fun _ => ⟨by omega, by omega, fun h => by omega, by omega⟩, fun _ => rfl⟩⟩, (Below.refl _ _).alloc (Nat.le_refl _) _⟩
  case neg =>
   have hx5 := ho2 hx
   have hxb : (xo != 0) = true := bne_iff_ne.2 hx
   have hxc : (xo == 0) = false := beq_eq_false_iff_ne.2 hx
   by_cases a1 : dg < 1
   case pos =>
    go_enter Tryz.func85, Tryz.ntmps85
    go_wp2_with fail
    refine (hs _).mono ?_; rintro e w1 ⟨rfl, rfl⟩
    go_wp2_with fail
    go_ret
    exact ⟨⟨20, rfl, by omega⟩, (Below.refl _ _).alloc (Nat.le_refl _) _⟩
   case neg =>
    by_cases a2 : 32 < dg
    case pos =>
     go_enter Tryz.func85, Tryz.ntmps85
     go_wp2_with fail
     refine (hs _).mono ?_; rintro e w1 ⟨rfl, rfl⟩
     go_wp2_with fail
     go_ret
     exact ⟨⟨20, rfl, by omega⟩, (Below.refl _ _).alloc (Nat.le_refl _) _⟩
    case neg =>
     by_cases a3 : ky < 0
     case pos =>
      go_enter Tryz.func85, Tryz.ntmps85
      go_wp2_with fail
      refine (hs _).mono ?_; rintro e w1 ⟨rfl, rfl⟩
      go_wp2_with fail
      go_ret
      exact ⟨⟨8, rfl, by omega⟩, (Below.refl _ _).alloc (Nat.le_refl _) _⟩
     case neg =>
      by_cases a4 : 32 < ky
      case pos =>
       go_enter Tryz.func85, Tryz.ntmps85
       go_wp2_with fail
       refine (hs _).mono ?_; rintro e w1 ⟨rfl, rfl⟩
       go_wp2_with fail
       go_ret
       exact ⟨⟨8, rfl, by omega⟩, (Below.refl _ _).alloc (Nat.le_refl _) _⟩
      case neg =>
       by_cases a0 : dp = 0
       case pos =>
        subst a0
        by_cases a5 : inr < 0
        case pos =>
         go_enter Tryz.func85, Tryz.ntmps85
         go_wp2_with fail
         refine (hs _).mono ?_; rintro e w1 ⟨rfl, rfl⟩
         go_wp2_with fail
         go_ret
         exact ⟨⟨26, rfl, by omega⟩, (Below.refl _ _).alloc (Nat.le_refl _) _⟩
        case neg =>
         by_cases a6 : 32 < inr
         case pos =>
          go_enter Tryz.func85, Tryz.ntmps85
          go_wp2_with fail
          refine (hs _).mono ?_; rintro e w1 ⟨rfl, rfl⟩
          go_wp2_with fail
          go_ret
          exact ⟨⟨26, rfl, by omega⟩, (Below.refl _ _).alloc (Nat.le_refl _) _⟩
         case neg =>
          go_enter Tryz.func85, Tryz.ntmps85
          go_wp2_with fail
          refine (hs _).mono ?_; rintro e w1 ⟨rfl, rfl⟩
          go_wp2_with fail
          go_ret
          exact ⟨⟨0, rfl, ⟨fun _ => ⟨by omega, by omega, fun h => by omega, by omega⟩, fun _ => rfl⟩⟩, (Below.refl _ _).alloc (Nat.le_refl _) _⟩
       case neg =>
        by_cases a5 : inr < 0
        case pos =>
         go_enter Tryz.func85, Tryz.ntmps85
         go_wp2_with fail
         refine (hs _).mono ?_; rintro e w1 ⟨rfl, rfl⟩
         go_wp2_with fail
         go_ret
         exact ⟨⟨26, rfl, by omega⟩, (Below.refl _ _).alloc (Nat.le_refl _) _⟩
        case neg =>
         by_cases a6 : 32 < inr
         case pos =>
          go_enter Tryz.func85, Tryz.ntmps85
          go_wp2_with fail
          refine (hs _).mono ?_; rintro e w1 ⟨rfl, rfl⟩
          go_wp2_with fail
          go_ret
          exact ⟨⟨26, rfl, by omega⟩, (Below.refl _ _).alloc (Nat.le_refl _) _⟩
         case neg =>
          go_enter Tryz.func85, Tryz.ntmps85
          go_wp2_with fail
          refine (hs _).mono ?_; rintro e w1 ⟨rfl, rfl⟩
          go_wp2_with fail
          go_ret
          exact ⟨⟨0, rfl, ⟨fun _ => ⟨by omega, by omega, fun h => by omega, by omega⟩, fun _ => rfl⟩⟩, (Below.refl _ _).alloc (Nat.le_refl _) _⟩
 case true =>
  have hs : ∀ w : World, Calls Tryz.prog 83 #[.int .i64 1] w fun e w' => e = .returned (.int .i64 64) ∧ w' = w := refMost_ok true
  change l1 ≤ 16 at hl1; change l2 ≤ 16 at hl2
  change Calls _ _ #[.int .i64 1, _] _ fun e w' => (∃ n, e = .returned (.int .i64 n) ∧ (n = 0 ↔ (1 ≤ dg ∧ dg ≤ 64) ∧ (0 ≤ ky ∧ ky ≤ 64) ∧ (xo = 0 → 1 ≤ dp) ∧ (0 ≤ inr ∧ inr ≤ 64))) ∧ _
  clear ho3 hx2
  by_cases hx : xo = 0
  case pos =>
   subst hx
   by_cases a1 : dg < 1
   case pos =>
    go_enter Tryz.func85, Tryz.ntmps85
    go_wp2_with fail
    refine (hs _).mono ?_; rintro e w1 ⟨rfl, rfl⟩
    go_wp2_with fail
    go_ret
    exact ⟨⟨20, rfl, by omega⟩, (Below.refl _ _).alloc (Nat.le_refl _) _⟩
   case neg =>
    by_cases a2 : 64 < dg
    case pos =>
     go_enter Tryz.func85, Tryz.ntmps85
     go_wp2_with fail
     refine (hs _).mono ?_; rintro e w1 ⟨rfl, rfl⟩
     go_wp2_with fail
     go_ret
     exact ⟨⟨20, rfl, by omega⟩, (Below.refl _ _).alloc (Nat.le_refl _) _⟩
    case neg =>
     by_cases a3 : ky < 0
     case pos =>
      go_enter Tryz.func85, Tryz.ntmps85
      go_wp2_with fail
      refine (hs _).mono ?_; rintro e w1 ⟨rfl, rfl⟩
      go_wp2_with fail
      go_ret
      exact ⟨⟨8, rfl, by omega⟩, (Below.refl _ _).alloc (Nat.le_refl _) _⟩
     case neg =>
      by_cases a4 : 64 < ky
      case pos =>
       go_enter Tryz.func85, Tryz.ntmps85
       go_wp2_with fail
       refine (hs _).mono ?_; rintro e w1 ⟨rfl, rfl⟩
       go_wp2_with fail
       go_ret
       exact ⟨⟨8, rfl, by omega⟩, (Below.refl _ _).alloc (Nat.le_refl _) _⟩
      case neg =>
       by_cases q3 : dp < 1
       case pos =>
        obtain rfl : dp = 0 := by omega
        go_enter Tryz.func85, Tryz.ntmps85
        go_wp2_with fail
        refine (hs _).mono ?_; rintro e w1 ⟨rfl, rfl⟩
        go_wp2_with fail
        go_ret
        exact ⟨⟨22, rfl, ⟨fun h => (by cases h), fun h => by have := h.2.2.1 (by trivial); omega⟩⟩, (Below.refl _ _).alloc (Nat.le_refl _) _⟩
       case neg =>
        by_cases a5 : inr < 0
        case pos =>
         go_enter Tryz.func85, Tryz.ntmps85
         go_wp2_with fail
         refine (hs _).mono ?_; rintro e w1 ⟨rfl, rfl⟩
         go_wp2_with fail
         go_ret
         exact ⟨⟨26, rfl, by omega⟩, (Below.refl _ _).alloc (Nat.le_refl _) _⟩
        case neg =>
         by_cases a6 : 64 < inr
         case pos =>
          go_enter Tryz.func85, Tryz.ntmps85
          go_wp2_with fail
          refine (hs _).mono ?_; rintro e w1 ⟨rfl, rfl⟩
          go_wp2_with fail
          go_ret
          exact ⟨⟨26, rfl, by omega⟩, (Below.refl _ _).alloc (Nat.le_refl _) _⟩
         case neg =>
          go_enter Tryz.func85, Tryz.ntmps85
          go_wp2_with fail
          refine (hs _).mono ?_; rintro e w1 ⟨rfl, rfl⟩
          go_wp2_with fail
          go_ret
          exact ⟨⟨0, rfl, ⟨fun _ => ⟨by omega, by omega, fun h => by omega, by omega⟩, fun _ => rfl⟩⟩, (Below.refl _ _).alloc (Nat.le_refl _) _⟩
  case neg =>
   have hx5 := ho2 hx
   have hxb : (xo != 0) = true := bne_iff_ne.2 hx
   have hxc : (xo == 0) = false := beq_eq_false_iff_ne.2 hx
   by_cases a1 : dg < 1
   case pos =>
    go_enter Tryz.func85, Tryz.ntmps85
    go_wp2_with fail
    refine (hs _).mono ?_; rintro e w1 ⟨rfl, rfl⟩
    go_wp2_with fail
    go_ret
    exact ⟨⟨20, rfl, by omega⟩, (Below.refl _ _).alloc (Nat.le_refl _) _⟩
   case neg =>
    by_cases a2 : 64 < dg
    case pos =>
     go_enter Tryz.func85, Tryz.ntmps85
     go_wp2_with fail
     refine (hs _).mono ?_; rintro e w1 ⟨rfl, rfl⟩
     go_wp2_with fail
     go_ret
     exact ⟨⟨20, rfl, by omega⟩, (Below.refl _ _).alloc (Nat.le_refl _) _⟩
    case neg =>
     by_cases a3 : ky < 0
     case pos =>
      go_enter Tryz.func85, Tryz.ntmps85
      go_wp2_with fail
      refine (hs _).mono ?_; rintro e w1 ⟨rfl, rfl⟩
      go_wp2_with fail
      go_ret
      exact ⟨⟨8, rfl, by omega⟩, (Below.refl _ _).alloc (Nat.le_refl _) _⟩
     case neg =>
      by_cases a4 : 64 < ky
      case pos =>
       go_enter Tryz.func85, Tryz.ntmps85
       go_wp2_with fail
       refine (hs _).mono ?_; rintro e w1 ⟨rfl, rfl⟩
       go_wp2_with fail
       go_ret
       exact ⟨⟨8, rfl, by omega⟩, (Below.refl _ _).alloc (Nat.le_refl _) _⟩
      case neg =>
       by_cases a0 : dp = 0
       case pos =>
        subst a0
        by_cases a5 : inr < 0
        case pos =>
         go_enter Tryz.func85, Tryz.ntmps85
         go_wp2_with fail
         refine (hs _).mono ?_; rintro e w1 ⟨rfl, rfl⟩
         go_wp2_with fail
         go_ret
         exact ⟨⟨26, rfl, by omega⟩, (Below.refl _ _).alloc (Nat.le_refl _) _⟩
        case neg =>
         by_cases a6 : 64 < inr
         case pos =>
          go_enter Tryz.func85, Tryz.ntmps85
          go_wp2_with fail
          refine (hs _).mono ?_; rintro e w1 ⟨rfl, rfl⟩
          go_wp2_with fail
          go_ret
          exact ⟨⟨26, rfl, by omega⟩, (Below.refl _ _).alloc (Nat.le_refl _) _⟩
         case neg =>
          go_enter Tryz.func85, Tryz.ntmps85
          go_wp2_with fail
          refine (hs _).mono ?_; rintro e w1 ⟨rfl, rfl⟩
          go_wp2_with fail
          go_ret
          exact ⟨⟨0, rfl, ⟨fun _ => ⟨by omega, by omega, fun h => by omega, by omega⟩, fun _ => rfl⟩⟩, (Below.refl _ _).alloc (Nat.le_refl _) _⟩
       case neg =>
        by_cases a5 : inr < 0
        case pos =>
         go_enter Tryz.func85, Tryz.ntmps85
         go_wp2_with fail
         refine (hs _).mono ?_; rintro e w1 ⟨rfl, rfl⟩
         go_wp2_with fail
         go_ret
         exact ⟨⟨26, rfl, by omega⟩, (Below.refl _ _).alloc (Nat.le_refl _) _⟩
        case neg =>
         by_cases a6 : 64 < inr
         case pos =>
          go_enter Tryz.func85, Tryz.ntmps85
          go_wp2_with fail
          refine (hs _).mono ?_; rintro e w1 ⟨rfl, rfl⟩
          go_wp2_with fail
          go_ret
          exact ⟨⟨26, rfl, by omega⟩, (Below.refl _ _).alloc (Nat.le_refl _) _⟩
         case neg =>
          go_enter Tryz.func85, Tryz.ntmps85
          go_wp2_with fail
          refine (hs _).mono ?_; rintro e w1 ⟨rfl, rfl⟩
          go_wp2_with fail
          go_ret
          exact ⟨⟨0, rfl, ⟨fun _ => ⟨by omega, by omega, fun h => by omega, by omega⟩, fun _ => rfl⟩⟩, (Below.refl _ _).alloc (Nat.le_refl _) _⟩
end Go.Proofs.YtjogmckaakkomaaGreat
