/- The walk of the reference's Rows. No condition. -/
import Derived.Test.YtkmgkeodmkfnpaaShapeD
import Derived.Lib.SmallJoins
import Derived.Maps.AppendAt
namespace Go.Proofs.Ytkmgkeodmkfnpaa
open Go.ChangeShapes Go.WideShapes Go.ChangeAt Go.RowKit Go.Joins Go.Maps

def encU (n : Nat) : Value := .int .u64 n
theorem info_u64 : (Try.prog.info? 27).map (fun i => (i.zero, i.size, i.bytes)) = some (some (.int .u64 0), 1, 8) := by kernel_rfl
theorem rowsFrom_stop {f p r m fuel : Nat} (hf : 1 ≤ fuel) (h : f = 0 ∨ r = p - 1) : rowsFrom f p fuel r m = [1] := by
  obtain ⟨k, rfl⟩ : ∃ k, fuel = k + 1 := ⟨fuel - 1, by omega⟩
  simp [rowsFrom, h]
theorem rowsFrom_one {f p r m fuel : Nat} (hf : 1 ≤ fuel) (h : ¬ (f = 0 ∨ r = p - 1)) (h1 : cdiv m f = 1) : rowsFrom f p fuel r m = [1] := by
  obtain ⟨k, rfl⟩ : ∃ k, fuel = k + 1 := ⟨fuel - 1, by omega⟩
  simp only [rowsFrom, h, if_false, h1]
  simp
theorem rowsFrom_more {f p r m fuel : Nat} (h : ¬ (f = 0 ∨ r = p - 1)) (h1 : cdiv m f ≠ 1) : rowsFrom f p (fuel + 1) r m = cdiv m f :: rowsFrom f p fuel (r + 1) (cdiv m f) := by
  simp only [rowsFrom, h, if_false, h1]

/-- What the loop of the reference's Rows knows at its head. -/
def RefRel (t : TreeV) (total : Nat) (w0 : World) (n v i : Value) (wr : World) : Prop :=
  ∃ (r m fuel : Nat) (pre : List Nat), n = .int .u64 m ∧ i = .int .i64 r ∧ 1 ≤ r ∧ r + 1 ≤ t.pn ∧ t.pn ≤ fuel + r ∧ (m : Int) ≤ 18446744073709551615 ∧ pre.length = r ∧
    rowsL t.fn t.pn (lvs total t.ln) = pre ++ rowsFrom t.fn t.pn fuel r m ∧ wr.ownsRow w0.heap.size 27 1 v pre.length (pre.map encU) ∧ Below w0.heap.size w0 wr

set_option maxRecDepth 100000 in
theorem refRows_err (t : TreeV) (hl : 0 ≤ t.l ∧ t.l ≤ 4294967295) (total : Nat) (ht : (total : Int) ≤ 18446744073709551615) (h : t.err total ≠ 0) (w : World) :
    Calls Try.prog 95 #[t.val, .int .u64 total] w fun e w' => e = .returned (.tuple #[.slice none 0 0, .int .i64 (t.err total)]) ∧ Below w.heap.size w w' := by
  have e1 : (t.err total != 0) = true := by rw [bne_iff_ne]; exact h
  unfold TreeV.val
  go_enter Try.func95, Try.ntmps95
  have H := Lib.hid h
  clear h
  go_wp2_with fail
  refine (refLeaves_err t hl total ht H.out _).mono ?_; rintro e w1 ⟨rfl, hb1⟩
  go_wp2
  go_ret2
  exact ⟨rfl, below_alloc_then _ hb1⟩
set_option maxRecDepth 100000 in
set_option maxHeartbeats 1000000 in
theorem refRows_ok (t : TreeV) (hl : 0 ≤ t.l ∧ t.l ≤ 4294967295) (total : Nat) (ht : (total : Int) ≤ 18446744073709551615) (h : t.err total = 0) (w : World) :
    Calls Try.prog 95 #[t.val, .int .u64 total] w fun e w' => ∃ v, e = .returned (.tuple #[v, .int .i64 0]) ∧
      w'.ownsRow w.heap.size 27 1 v (rowsL t.fn t.pn (lvs total t.ln)).length ((rowsL t.fn t.pn (lvs total t.ln)).map encU) ∧ Below w.heap.size w w' := by
  obtain ⟨i0, hi, hz0, hz1, hz2⟩ := info_parts info_u64
  obtain ⟨hl1, hl2, -, h0⟩ := TreeV.ok_facts hl h
  have hv := TreeV.valid_facts h0
  obtain ⟨-, -, -, -, -, hf, hp2, hp3, -, -, -, -⟩ := hv
  have hlv := lvs_le total t.ln hl1 ht
  have hpn : t.p = (t.pn : Int) := by unfold TreeV.pn; omega
  have hfn : t.f = (t.fn : Int) := by unfold TreeV.fn; omega
  have H := Lib.hid h
  have HP := Lib.hid hpn
  have HF := Lib.hid hfn
  have hp4 : 2 ≤ t.pn := by omega
  have hp5 : t.pn ≤ 255 := by omega
  have hf3 : t.fn ≤ 255 := by omega
  clear h h0 hpn hfn
  unfold TreeV.val
  go_enter Try.func95, Try.ntmps95
  go_wp2_with fail
  refine (refLeaves_ok t hl total ht H.out _).mono ?_; rintro e w1 ⟨rfl, hb1⟩
  go_wp2
  have hcf : w1.cell? ⟨w.heap.size, 2, none⟩ = some (.int .i64 t.fn) := by rw [← HF.out]; exact (hb1.cell (p := ⟨w.heap.size, 2, none⟩) (by simp)).trans (by simp [go_sem])
  have hcp : w1.cell? ⟨w.heap.size, 3, none⟩ = some (.int .i64 t.pn) := by rw [← HP.out]; exact (hb1.cell (p := ⟨w.heap.size, 3, none⟩) (by simp)).trans (by simp [go_sem])
  have hs1 : w.heap.size < w1.heap.size := by have := hb1.size; simp at this; omega
  go_loopw [6, 8, 9] (fun n v i wr => RefRel t total w1 n v i wr) (fun _ _ i _ => t.pn - (intOf i).toNat)
  case atStart =>
    refine ⟨1, lvs total t.ln, t.pn, [lvs total t.ln], rfl, rfl, Nat.le_refl _, by omega, by omega, hlv, rfl, rfl, ?_, ?_⟩
    · exact World.ownsRow_lit w1 #[.int .u64 (lvs total t.ln)] 1 (Nat.le_refl _) (by unfold maxLen; omega) rfl
    · exact Below.alloc (Below.refl _ _) (Nat.le_refl _) _
  case round =>
    obtain ⟨r, m, fuel, pre, rfl, rfl, hr1, hr2, hfu, hm, hpl, hro, hown, hb2⟩ := hrel
    have gcf : wr.cell? ⟨w.heap.size, 2, none⟩ = some (.int .i64 t.fn) := (hb2.cell (p := ⟨w.heap.size, 2, none⟩) hs1).trans hcf
    have gcp : wr.cell? ⟨w.heap.size, 3, none⟩ = some (.int .i64 t.pn) := (hb2.cell (p := ⟨w.heap.size, 3, none⟩) hs1).trans hcp
    have hsr : w1.heap.size ≤ wr.heap.size := hb2.size
    have HRO := Lib.hid hro
    have HPL := Lib.hid hpl
    have hpl2 : pre.length ≤ 254 := by omega
    have hfu1 : 1 ≤ fuel := by omega
    clear hro hcf hcp hpl
    by_cases hf0 : t.fn = 0
    · have e1 : ((t.fn : Int) == 0) = true := by rw [beq_iff_eq]; omega
      have HS := Lib.hid (rowsFrom_stop (m := m) hfu1 (.inl hf0 : t.fn = 0 ∨ r = t.pn - 1))
      clear hf0
      go_wp2_with (at_builtin; refine wpList_append_own _ rfl _ _ 72 rfl w1.heap.size 27 i0 (.int .u64 0) 1 8 Try.underlying72 hi hz0 hz1 hz2 rfl (by decide) _ _ _ rfl (hown.alloc _) ⟨wr.heap.size, 0, none⟩ 1 1 [.int .u64 1] rfl rfl (cell_one_new _ _ _) (by simp [Value.oneCell']) (by unfold maxLen; omega) (by omega) (by simp; omega) ?_; intro v' w2 hown' hgrow _)
      go_ret2
      have hb3 : Below w1.heap.size w1 w2 := (hb2.alloc hsr _).grown hgrow (by simp; omega) (fun k e => (hown.lt k e).1)
      refine ⟨v', rfl, ?_, ((below_alloc_then _ hb1).trans (hb3.mono (Nat.le_of_lt hs1)))⟩
      have hall : rowsL t.fn t.pn (lvs total t.ln) = pre ++ [1] := by rw [HRO.out, HS.out]
      rw [hall]
      have := ownsRow_le hown' (Nat.le_of_lt hs1)
      simpa [encU] using this
    have e1 : ((t.fn : Int) == 0) = false := by rw [beq_eq_false_iff_ne]; omega
    by_cases hrp : r = t.pn - 1
    · have e2 : ((r : Int) == (t.pn : Int) - 1) = true := by rw [beq_iff_eq]; omega
      have HS := Lib.hid (rowsFrom_stop (m := m) hfu1 (.inr hrp : t.fn = 0 ∨ r = t.pn - 1))
      clear hrp hf0
      go_wp2_with (at_builtin; refine wpList_append_own _ rfl _ _ 72 rfl w1.heap.size 27 i0 (.int .u64 0) 1 8 Try.underlying72 hi hz0 hz1 hz2 rfl (by decide) _ _ _ rfl (hown.alloc _) ⟨wr.heap.size, 0, none⟩ 1 1 [.int .u64 1] rfl rfl (cell_one_new _ _ _) (by simp [Value.oneCell']) (by unfold maxLen; omega) (by omega) (by simp; omega) ?_; intro v' w2 hown' hgrow _)
      go_ret2
      have hb3 : Below w1.heap.size w1 w2 := (hb2.alloc hsr _).grown hgrow (by simp; omega) (fun k e => (hown.lt k e).1)
      refine ⟨v', rfl, ?_, ((below_alloc_then _ hb1).trans (hb3.mono (Nat.le_of_lt hs1)))⟩
      have hall : rowsL t.fn t.pn (lvs total t.ln) = pre ++ [1] := by rw [HRO.out, HS.out]
      rw [hall]
      have := ownsRow_le hown' (Nat.le_of_lt hs1)
      simpa [encU] using this
    have e2 : ((r : Int) == (t.pn : Int) - 1) = false := by rw [beq_eq_false_iff_ne]; omega
    have hns : ¬ (t.fn = 0 ∨ r = t.pn - 1) := fun h => h.elim hf0 hrp
    have hcd := cdiv_le (n := m) (show 1 ≤ t.fn by omega)
    by_cases h1 : cdiv m t.fn = 1
    · have e3 : ((cdiv m t.fn : Int) == 1) = true := by rw [beq_iff_eq]; omega
      have HS := Lib.hid (rowsFrom_one hfu1 hns h1)
      have H1 := Lib.hid h1
      have hf1 : 1 ≤ t.fn := by omega
      clear hrp hf0 hns h1
      go_wp2_with (first | (at_builtin; refine wpList_append_own _ rfl _ _ 72 rfl w1.heap.size 27 i0 (.int .u64 0) 1 8 Try.underlying72 hi hz0 hz1 hz2 rfl (by decide) _ _ _ rfl (hown.alloc _) ⟨wr.heap.size, 0, none⟩ 1 1 [.int .u64 (cdiv m t.fn : Nat)] rfl rfl (cell_one_new _ _ _) (by simp [Value.oneCell']) (by unfold maxLen; omega) (by omega) (by simp; omega) ?_; intro v' w2 hown' hgrow _) | (go_at_call 122; refine (up_any m t.fn hm hf1 (by omega) _).mono ?_; rintro e w2 ⟨rfl, rfl⟩))
      go_ret2
      have hb3 : Below w1.heap.size w1 w2 := (hb2.alloc hsr _).grown hgrow (by simp; omega) (fun k e => (hown.lt k e).1)
      refine ⟨v', rfl, ?_, ((below_alloc_then _ hb1).trans (hb3.mono (Nat.le_of_lt hs1)))⟩
      have hall : rowsL t.fn t.pn (lvs total t.ln) = pre ++ [cdiv m t.fn] := by rw [HRO.out, HS.out, H1.out]
      rw [hall]
      have := ownsRow_le hown' (Nat.le_of_lt hs1)
      simpa [encU] using this
    · have e3 : ((cdiv m t.fn : Int) == 1) = false := by rw [beq_eq_false_iff_ne]; omega
      obtain ⟨fu, rfl⟩ : ∃ fu, fuel = fu + 1 := ⟨fuel - 1, by omega⟩
      have HS := Lib.hid (rowsFrom_more (fuel := fu) hns h1)
      have hf1 : 1 ≤ t.fn := by omega
      have hr3 : r + 2 ≤ t.pn := by omega
      clear hrp hf0 hns h1
      go_wp2_with (first | (at_builtin; refine wpList_append_own _ rfl _ _ 72 rfl w1.heap.size 27 i0 (.int .u64 0) 1 8 Try.underlying72 hi hz0 hz1 hz2 rfl (by decide) _ _ _ rfl (hown.alloc _) ⟨wr.heap.size, 0, none⟩ 1 1 [.int .u64 (cdiv m t.fn : Nat)] rfl rfl (cell_one_new _ _ _) (by simp [Value.oneCell']) (by unfold maxLen; omega) (by omega) (by simp; omega) ?_; intro v' w2 hown' hgrow _) | (go_at_call 122; refine (up_any m t.fn hm hf1 (by omega) _).mono ?_; rintro e w2 ⟨rfl, rfl⟩))
      go_roundw
      case rel =>
        have hb3 : Below w1.heap.size w1 w2 := (hb2.alloc hsr _).grown hgrow (by simp; omega) (fun k e => (hown.lt k e).1)
        refine ⟨r + 1, cdiv m t.fn, fu, pre ++ [cdiv m t.fn], rfl, by simp, by omega, by omega, by omega, by omega, by simp [HPL.out], ?_, ?_, hb3⟩
        · rw [HRO.out, HS.out]; simp
        · simpa [encU] using hown'
      case measure => simp [intOf]; omega
end Go.Proofs.Ytkmgkeodmkfnpaa
