/- The rows by the document are those that the program makes: plain. No condition. -/
import Derived.Test.YtahenngmaoellaaN30
import Derived.Test.YtahenngmaoellaaN31
import Derived.Maps.AppendAt
set_option linter.all false
set_option maxRecDepth 100000
set_option maxHeartbeats 8000000
namespace Go.Proofs.Ytahenngmaoellaa
open Go.ChangeShapes Go.WideShapes Go.ChangeAt Go.RowKit Go.Joins Go.Shelf Go.Maps
theorem cdiv_one {n d : Nat} (h1 : 1 ≤ n) (h2 : n ≤ d) : cdiv n d = 1 := by
 have := cdiv_pos (d := d) h1
 have h3 : ¬ 1 < cdiv n d := fun h => by have := (lt_cdiv (n := n) (d := d) (j := 1) (by omega)).1 h; omega
 omega
/-- A row's data, told by the document's number. -/
theorem TreeV.upZ_rows {t : TreeV} (hv : t.validE = 0) {row : Nat} (hr : 1 ≤ row) {L : List (List Int)} (hL : L ≠ []) :
  (t.upZ row L).length = rowNext t.fn t.pn row L.length ∧ (t.rootZ row L.length = true ↔ rowNext t.fn t.pn row L.length = 1) := by
 have hp := List.length_pos_iff.2 hL
 have hvf := TreeV.valid_facts hv
 have e1 : (t.f = 0) ↔ t.fn = 0 := by unfold TreeV.fn; omega
 have e2 : ((row : Int) = t.p - 1) ↔ row = t.pn - 1 := by unfold TreeV.pn; omega
 unfold TreeV.upZ rowNext
 by_cases hc : t.fn = 0 ∨ row = t.pn - 1
 ·have hrt : t.rootZ row L.length = true := decide_eq_true (by rcases hc with h | h; exact .inl (e1.2 h); exact .inr (.inl (e2.2 h)))
  rw [if_pos hrt, if_pos hc]
  exact ⟨rfl, by simp [hrt]⟩
 ·rw [if_neg hc]
  cases hrt : t.rootZ row L.length with
  | true =>
   have h3 : t.f = 0 ∨ (row : Int) = t.p - 1 ∨ (L.length : Int) ≤ t.f := of_decide_eq_true hrt
   have h4 : L.length ≤ t.fn := by unfold TreeV.fn; omega
   rw [cdiv_one hp h4]
   exact ⟨rfl, by simp⟩
  | false =>
   have h3 := TreeV.fn_pos hv hrt
   rw [if_neg (by simp), flats_length]
   refine ⟨rfl, by simp, fun h => ?_⟩
   have := cdiv_ge (k := 1) (d := t.fn) (m := L.length) (by omega) (by omega)
   omega
theorem TreeV.lvl_rows {t : TreeV} {total : Nat} (he : t.err total = 0) (kz z1 z2 : List Int) {L0 : List (List Int)} (h0 : L0.length = lvs total t.ln) (h1 : ∀ z ∈ L0, z.length ≤ 64) : ∀ r, r < (t.rowsOf total).length → (t.lvlZ kz z1 z2 L0 r).length = nth (t.rowsOf total) r
 | 0, _ => by rw [(TreeV.rows_is he).first]; exact h0
 | r + 1, hr => by
  have hv := TreeV.err_valid he
  have hL0 : L0 ≠ [] := List.length_pos_iff.1 (by rw [h0]; unfold lvs; omega)
  have ih := TreeV.lvl_rows he kz z1 z2 h0 h1 r (by omega)
  have hf := TreeV.lvlZ_facts hv kz z1 z2 hL0 h1 r
  have hu := TreeV.upZ_rows hv (row := r + 1) (by omega) hf.1
  have hl : (t.lvlZ kz z1 z2 L0 (r + 1)).length = (t.upZ (r + 1) (t.lvlZ kz z1 z2 L0 r)).length := TreeV.rowZ_length ..
  rw [hl, hu.1, (TreeV.rows_is he).next r hr, ih]
/-- A node's place, above the leaves. -/
theorem node_spot {t : TreeV} {total : Nat} (he : t.err total = 0) (kz z1 z2 : List Int) {L0 : List (List Int)} (h0 : L0.length = lvs total t.ln) (h1 : ∀ z ∈ L0, z.length ≤ 64) {r : Nat} (hr : r + 1 < (t.rowsOf total).length) {Lb D : List (List Int)} (hLb : t.lvlZ kz z1 z2 L0 r = Lb) (hD : t.upZ (r + 1) Lb = D) {i : Nat} (hi : i < D.length) :
  t.there total ((r + 1 : Nat) : Int) i ∧ ∃ a b, t.spot total (r + 1) i = ⟨r + 1, i, a, b, decide (i + 1 = D.length), t.rootZ (r + 1) Lb.length⟩ ∧ a ≤ b ∧ b ≤ Lb.length ∧ nthL D i = ((Lb.drop a).take (b - a)).flatten := by
 have hv := TreeV.err_valid he
 have hL0 : L0 ≠ [] := List.length_pos_iff.1 (by rw [h0]; unfold lvs; omega)
 have hf := TreeV.lvlZ_facts hv kz z1 z2 hL0 h1 r
 have hb := TreeV.lvl_rows he kz z1 z2 h0 h1 r (by omega)
 have hn := (TreeV.rows_is he).next r hr
 rw [hLb] at hf hb
 have hu := TreeV.upZ_rows hv (row := r + 1) (by omega) hf.1
 rw [hb, ← hn, hD] at hu
 obtain ⟨hu1, hu2⟩ := hu
 have hp := List.length_pos_iff.2 hf.1
 refine ⟨⟨by omega, by rw [Int.toNat_natCast]; exact hr, by rw [Int.toNat_natCast, ← hu1]; exact hi⟩, ?_⟩
 unfold TreeV.spot spotIn
 rw [Nat.add_sub_cancel, if_neg (by omega : ¬ r + 1 = 0), ← hb]
 cases hrt : t.rootZ (r + 1) Lb.length with
 | true =>
  rw [← hb] at hu2
  have h1 := hu2.1 hrt
  rw [if_pos ⟨by omega, h1⟩]
  refine ⟨0, Lb.length, ?_, Nat.zero_le _, Nat.le_refl _, ?_⟩
  ·rw [h1, hu1, h1]
   congr 1
   rw [decide_eq_decide]; omega
  ·have hDe : D = [Lb.flatten] := by rw [← hD]; unfold TreeV.upZ; rw [if_pos hrt]
   have : i = 0 := by rw [hDe] at hi; simp at hi; omega
   subst this
   rw [hDe, List.drop_zero, Nat.sub_zero, List.take_length]; rfl
 | false =>
  rw [← hb, hrt] at hu2
  have h1 : ¬ nth (t.rowsOf total) (r + 1) = 1 := fun h => by have := hu2.2 h; cases this
  have hfn := TreeV.fn_pos hv hrt
  have hDe : D = flats t.fn Lb (cdiv Lb.length t.fn) := by rw [← hD]; unfold TreeV.upZ; rw [if_neg (by rw [hrt]; simp)]
  have hDl : D.length = cdiv Lb.length t.fn := by rw [hDe, flats_length]
  have hit : nthL D i = ((Lb.drop (i * t.fn)).take t.fn).flatten := by
   rw [hDl] at hi
   rw [hDe]
   simp [nthL, flats, piece, List.getD_eq_getElem?_getD, hi]
  have hil : i * t.fn < Lb.length := (lt_cdiv (by omega)).1 (by omega)
  rw [if_neg (by rintro ⟨-, h⟩; exact h1 h)]
  by_cases h : i = nth (t.rowsOf total) (r + 1) - 1
  ·rw [if_pos h]
   refine ⟨i * t.fn, Lb.length, ?_, by omega, Nat.le_refl _, ?_⟩
   ·rw [decide_eq_true (by omega), if_neg (by omega : ¬ r + 1 = 0)]
   ·rw [hit]
    have hd : (Lb.drop (i * t.fn)).length = Lb.length - i * t.fn := by simp
    have hle : Lb.length - i * t.fn ≤ t.fn := by
     have := cdiv_ge (m := Lb.length) (d := t.fn) (k := i + 1) (by omega) (by omega)
     rw [Nat.add_mul, Nat.one_mul] at this
     omega
    rw [List.take_of_length_le (by omega), List.take_of_length_le (by omega)]
  ·rw [if_neg h]
   have h3 : i + 1 < cdiv Lb.length t.fn := by omega
   have h4 := (lt_cdiv (by omega)).1 h3
   refine ⟨i * t.fn, (i + 1) * t.fn, ?_, Nat.mul_le_mul_right _ (by omega), by omega, ?_⟩
   ·rw [decide_eq_false (by omega)]
   ·rw [hit, Nat.add_mul, Nat.one_mul, Nat.add_sub_cancel_left]
theorem top_rows {t : TreeV} {total : Nat} (he : t.err total = 0) (kz z1 z2 : List Int) {L0 : List (List Int)} (h0 : L0.length = lvs total t.ln) (h1 : ∀ z ∈ L0, z.length ≤ 64) : t.topAt kz z1 z2 L0 ((t.rowsOf total).length - 1) := by
 have hv := TreeV.err_valid he
 have hL0 : L0 ≠ [] := List.length_pos_iff.1 (by rw [h0]; unfold lvs; omega)
 have hR := TreeV.rows_is he
 have hlen := hR.len
 have key : ∀ q, 1 ≤ q → q < (t.rowsOf total).length → (t.rootZ q (t.lvlZ kz z1 z2 L0 (q - 1)).length = true ↔ nth (t.rowsOf total) q = 1) := fun q h2 h3 => by
  have hf := TreeV.lvlZ_facts hv kz z1 z2 hL0 h1 (q - 1)
  have hu := (TreeV.upZ_rows hv h2 hf.1).2
  have hb := TreeV.lvl_rows he kz z1 z2 h0 h1 (q - 1) (by omega)
  have hn := hR.next (q - 1) (by omega)
  rw [Nat.sub_add_cancel h2] at hn
  rw [hu, hb, hn]
 refine ⟨by omega, (key _ (by omega) (by omega)).2 hR.last, fun q h2 h3 => ?_⟩
 have := (key q h2 (by omega))
 cases hrt : t.rootZ q (t.lvlZ kz z1 z2 L0 (q - 1)).length with
 | false => rfl
 | true => exact absurd (this.1 hrt) (hR.more q h2 (by omega))
end Go.Proofs.Ytahenngmaoellaa
namespace Go.Proofs.Ytahenngmaoellaa
open Go.ChangeShapes Go.WideShapes Go.ChangeAt Go.RowKit Go.Joins Go.Shelf Go.Maps
attribute [local go_sem] Oper.semAt_some
theorem fresh_block {B : Nat} {w : World} {v : Value} {z : List Int} (h : Fresh B w v z) : ∀ g, v.ownBlock = some g → B ≤ g ∧ g < w.heap.size := by
 intro g hg
 rcases h with ⟨-, rfl⟩ | ⟨g', cap, cur, rfl, h1, h2, -⟩
 ·cases hg
 ·simp only [Value.ownBlock, Option.some.injEq] at hg
  subst hg
  exact ⟨h1, (Array.getElem?_eq_some_iff.1 h2).1⟩
end Go.Proofs.Ytahenngmaoellaa
