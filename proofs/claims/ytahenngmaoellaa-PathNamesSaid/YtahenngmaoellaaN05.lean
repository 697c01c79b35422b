/- The plain numbers of a tree's rows; the walks of ceil, valid, Leaves and of the reference's up, Leaves. No condition. -/
import Derived.Test.YtahenngmaoellaaN04
import Derived.Test.YtahenngmaoellaaN03
import Derived.OpenShut
import Derived.Deep.Fields
import Derived.Lib.SmallJoins
import Derived.Maps.AppendAt
set_option linter.all false
set_option maxRecDepth 100000
set_option maxHeartbeats 8000000
namespace Go.Proofs.Ytahenngmaoellaa
open Go.ChangeShapes Go.WideShapes Go.ChangeAt Go.RowKit
open Go.Lib (hid)
/-! ### Plain numbers -/
/-- The k-th of a list, under a name that the walk leaves alone. -/
def nth (l : List Nat) (k : Nat) : Nat := l.getD k 0
theorem nth_cons_succ (a : Nat) (l : List Nat) (k : Nat) : nth (a :: l) (k + 1) = nth l k := rfl
/-- n by d, rounded up. -/
def cdiv (n d : Nat) : Nat := if n % d = 0 then n / d else n / d + 1
theorem cdiv_le {n d : Nat} (hd : 1 ≤ d) : cdiv n d ≤ n := by
  unfold cdiv
  split
  · exact Nat.div_le_self _ _
  · rename_i h
    have h2 : 2 ≤ d := by
      rcases Nat.lt_or_ge d 2 with h' | h'
      · have : d = 1 := by omega
        subst this; simp [Nat.mod_one] at h
      · exact h'
    have hn : 0 < n := by
      rcases Nat.eq_zero_or_pos n with h' | h'
      · subst h'; simp at h
      · exact h'
    have h3 := Nat.div_lt_self hn h2
    exact h3
theorem cdiv_pos {n d : Nat} (hn : 1 ≤ n) : 1 ≤ cdiv n d := by
  unfold cdiv
  split
  · rename_i h
    have := Nat.div_add_mod n d
    rw [h] at this
    rcases Nat.eq_zero_or_pos (n / d) with h' | h'
    · rw [h'] at this; simp at this; omega
    · exact h'
  · exact Nat.le_add_left _ _
/-- How many leaves. -/
def lvs (total l : Nat) : Nat := max 1 (cdiv total l)
/-- The rows above row - 1, which has n nodes. -/
def rowsFrom (f p : Nat) : Nat → Nat → Nat → List Nat
  | 0, _, _ => []
  | fuel + 1, row, n => (if f = 0 ∨ row = p - 1 then 1 else cdiv n f) :: (if (if f = 0 ∨ row = p - 1 then 1 else cdiv n f) = 1 then [] else rowsFrom f p fuel (row + 1) (if f = 0 ∨ row = p - 1 then 1 else cdiv n f))
/-- All rows' numbers. -/
def rowsL (f p n : Nat) : List Nat := n :: rowsFrom f p p 1 n
def pairsFrom : Nat → List Nat → List (Nat × Nat)
  | _, [] => []
  | r, n :: l => (r, n) :: pairsFrom (r + 1) l
theorem pairsFrom_length : ∀ (r : Nat) (l : List Nat), (pairsFrom r l).length = l.length
  | _, [] => rfl
  | r, n :: l => by simp [pairsFrom, pairsFrom_length (r + 1) l]
def TreeV.ln (t : TreeV) : Nat := t.l.toNat
def TreeV.fn (t : TreeV) : Nat := t.f.toNat
def TreeV.pn (t : TreeV) : Nat := t.p.toNat
/-- The error that comes first, of a tree and a length. -/
def TreeV.err (t : TreeV) (total : Nat) : Int := if t.validE ≠ 0 then t.validE else if t.k = 2 ∧ 281474976710656 < cdiv total t.ln then 2 else 0
theorem TreeV.valid_facts {t : TreeV} (h : t.validE = 0) : (t.k = 1 ∨ t.k = 2) ∧ 1 ≤ t.d ∧ t.d ≤ sizeK t.k ∧ 1 ≤ t.i ∧ t.i ≤ sizeK t.k ∧ (t.f = 0 ∨ 2 ≤ t.f ∧ t.f ≤ 255) ∧ 2 ≤ t.p ∧ t.p ≤ 255 ∧ t.l ≠ 0 ∧
    (t.kl : Int) ≤ sizeK t.k ∧ ((t.sl : Int) = 0 ∨ (t.sl : Int) = saltK t.k) ∧ ((t.pl : Int) = 0 ∨ (t.pl : Int) = saltK t.k) := by
  unfold TreeV.validE at h
  split at h
  · cases h
  · split at h
    · cases h
    · split at h
      · cases h
      · split at h
        · cases h
        · split at h
          · cases h
          · refine ⟨by omega, by omega, by omega, by omega, by omega, by omega, by omega, by omega, by omega, by omega, ?_, ?_⟩ <;> omega
theorem TreeV.err_valid {t : TreeV} {total : Nat} (h : t.err total = 0) : t.validE = 0 := by
  unfold TreeV.err at h
  split at h
  · omega
  · omega
/-! ### The walks -/
theorem ceil_any (n d : Nat) (hn : (n : Int) ≤ 18446744073709551615) (hd : 1 ≤ d) (hd2 : (d : Int) ≤ 18446744073709551615) (w : World) :
    Calls Try.prog 33 #[.int .u64 n, .int .u64 d] w fun e w' => e = .returned (.int .u64 (cdiv n d)) ∧ w = w' := by
  have hdn := cdiv_le (n := n) hd
  have hd1 : (1 : Int) ≤ d := by omega
  have hd0 : ((d : Int) == 0) = false := by rw [beq_eq_false_iff_ne]; omega
  have hq : ((n / d : Nat) : Int) = (n : Int) / (d : Int) := Int.natCast_ediv n d
  have hm : ((n % d : Nat) : Int) = (n : Int) % (d : Int) := Int.natCast_emod n d
  have hq2 := Nat.div_le_self n d
  by_cases h : n % d = 0
  · have e1 : ((n : Int) % (d : Int) != 0) = false := by
      rw [bne_eq_false_iff_eq, ← hm, h]; rfl
    have e2 : (cdiv n d : Int) = (n : Int) / (d : Int) := by simp [cdiv, h]
    have e3 : (n : Int) / (d : Int) ≤ 18446744073709551615 := by rw [← hq]; omega
    have e4 : 0 ≤ (n : Int) / (d : Int) := by rw [← hq]; exact Int.natCast_nonneg _
    have E2 := hid e2
    clear e2 hq hm
    go_enter Try.func33, Try.ntmps33
    go_wp2
    go_ret
    exact ⟨by rw [E2.out]; rfl, rfl⟩
  · have e1 : ((n : Int) % (d : Int) != 0) = true := by
      rw [bne_iff_ne, ← hm]; intro h'; exact h (by exact_mod_cast h')
    have e2 : (cdiv n d : Int) = (n : Int) / (d : Int) + 1 := by simp [cdiv, h]
    have e3 : (n : Int) / (d : Int) + 1 ≤ 18446744073709551615 := by rw [← hq]; (have e5 : cdiv n d = n / d + 1 := by simp [cdiv, h]); omega
    have e4 : 0 ≤ (n : Int) / (d : Int) := by rw [← hq]; exact Int.natCast_nonneg _
    have E2 := hid e2
    clear e2 hq hm
    go_enter Try.func33, Try.ntmps33
    go_wp2
    go_ret
    exact ⟨by rw [E2.out]; rfl, rfl⟩
/-- What lay below a heap's size reads as it did. -/
theorem bcell {W w1 : World} (hb : Below W.heap.size W w1) : (∀ b o, b < W.heap.size → w1.cell? ⟨b, o, none⟩ = W.cell? ⟨b, o, none⟩) ∧ (∀ b o, b < W.heap.size → w1.frozen? ⟨b, o, none⟩ = W.frozen? ⟨b, o, none⟩) :=
  ⟨fun b o h => hb.cell (p := ⟨b, o, none⟩) h, fun b o h => hb.frozen (p := ⟨b, o, none⟩) h⟩
/-- shape.valid. -/
theorem svalid_any (t : TreeV) (hl : 0 ≤ t.l ∧ t.l ≤ 4294967295) (total : Nat) (ht : (total : Int) ≤ 18446744073709551615) (w : World) :
    Calls Try.prog 22 #[t.val, .int .u64 total] w fun e w' => e = .returned (.int .i64 (t.err total)) ∧ Below w.heap.size w w' := by
  by_cases h0 : t.validE = 0
  · have hv := TreeV.valid_facts h0
    have H0 := hid h0
    obtain ⟨-, -, -, -, -, -, -, -, hl0, -, -, -⟩ := hv
    have hl1 : 1 ≤ t.ln := by unfold TreeV.ln; omega
    have hl2 : (t.ln : Int) ≤ 18446744073709551615 := by unfold TreeV.ln; omega
    have HL := hid (show t.l = (t.ln : Int) by unfold TreeV.ln; omega)
    by_cases hk : t.k = 2
    · have ek : (t.k == 2) = true := by simpa using hk
      have HE : Hid (t.err total = if 281474976710656 < cdiv total t.ln then 2 else 0) := by show _ = _; simp [TreeV.err, h0, hk]
      clear hk hl0 h0
      unfold TreeV.val
      go_enter Try.func22, Try.ntmps22
      go_wp2_with fail
      refine (valid_any t _).mono ?_; rintro e w1 ⟨rfl, hb1⟩
      obtain ⟨hc, -⟩ := bcell hb1
      rw [H0.out]
      go_wp2_with (go_at_call 33; rw [HL.out]; refine (ceil_any total t.ln ht hl1 hl2 _).mono ?_; rintro e w2 ⟨rfl, rfl⟩)
      all_goals go_ret
      all_goals refine ⟨ret_int (by rw [HE.out]; first | rw [if_pos (by omega)] | rw [if_neg (by omega)]), ?_⟩
      all_goals exact (Below.alloc (Below.refl _ _) (Nat.le_refl _) _).trans (hb1.mono (by simp))
    · have ek : (t.k == 2) = false := by simpa using hk
      have HE : Hid (t.err total = 0) := by show _ = _; simp [TreeV.err, h0, hk]
      clear hk hl0 h0
      unfold TreeV.val
      go_enter Try.func22, Try.ntmps22
      go_wp2_with fail
      refine (valid_any t _).mono ?_; rintro e w1 ⟨rfl, hb1⟩
      obtain ⟨hc, -⟩ := bcell hb1
      rw [H0.out]
      go_wp2
      go_ret
      exact ⟨ret_int (by rw [HE.out]), (Below.alloc (Below.refl _ _) (Nat.le_refl _) _).trans (hb1.mono (by simp))⟩
  · have e1 : (t.validE != 0) = true := by rw [bne_iff_ne]; exact h0
    have HE : Hid (t.err total = t.validE) := by show _ = _; simp [TreeV.err, h0]
    clear h0
    unfold TreeV.val
    go_enter Try.func22, Try.ntmps22
    go_wp2_with fail
    refine (valid_any t _).mono ?_; rintro e w1 ⟨rfl, hb1⟩
    go_wp2
    go_ret
    exact ⟨ret_int (by rw [HE.out]), (Below.alloc (Below.refl _ _) (Nat.le_refl _) _).trans (hb1.mono (by simp))⟩
theorem below_alloc_then {w w1 : World} (o : Obj) (hb : Below (w.alloc o).heap.size (w.alloc o) w1) : Below w.heap.size w w1 :=
  (Below.alloc (Below.refl _ _) (Nat.le_refl _) o).trans (hb.mono (by simp))
theorem TreeV.ok_facts {t : TreeV} {total : Nat} (hl : 0 ≤ t.l ∧ t.l ≤ 4294967295) (h : t.err total = 0) : 1 ≤ t.ln ∧ (t.ln : Int) ≤ 4294967295 ∧ t.l = (t.ln : Int) ∧ t.validE = 0 := by
  have h0 := TreeV.err_valid h
  have hv := TreeV.valid_facts h0
  unfold TreeV.ln
  omega
theorem lvs_le (total l : Nat) (hl : 1 ≤ l) (ht : (total : Int) ≤ 18446744073709551615) : (lvs total l : Int) ≤ 18446744073709551615 := by
  have := cdiv_le (n := total) hl
  unfold lvs
  omega
end Go.Proofs.Ytahenngmaoellaa
namespace Go.Proofs.Ytahenngmaoellaa
open Go.ChangeShapes Go.WideShapes Go.ChangeAt Go.RowKit Go.Joins Go.Maps
open Go.Lib (hid)
theorem rowsFrom_stop {f p r m fuel : Nat} (hf : 1 ≤ fuel) (h : f = 0 ∨ r = p - 1) : rowsFrom f p fuel r m = [1] := by
  obtain ⟨k, rfl⟩ : ∃ k, fuel = k + 1 := ⟨fuel - 1, by omega⟩
  simp [rowsFrom, h]
theorem rowsFrom_one {f p r m fuel : Nat} (hf : 1 ≤ fuel) (h : ¬ (f = 0 ∨ r = p - 1)) (h1 : cdiv m f = 1) : rowsFrom f p fuel r m = [1] := by
  obtain ⟨k, rfl⟩ : ∃ k, fuel = k + 1 := ⟨fuel - 1, by omega⟩
  simp only [rowsFrom, h, if_false, h1]
  simp
theorem rowsFrom_more {f p r m fuel : Nat} (h : ¬ (f = 0 ∨ r = p - 1)) (h1 : cdiv m f ≠ 1) : rowsFrom f p (fuel + 1) r m = cdiv m f :: rowsFrom f p fuel (r + 1) (cdiv m f) := by
  simp only [rowsFrom, h, if_false, h1]
end Go.Proofs.Ytahenngmaoellaa
