/- Row by row up to the root: plain. No condition. -/
import Derived.Test.YtjogmckaakkomaaGreatB41
import Derived.Test.YtjogmckaakkomaaGreatB34
set_option linter.all false
set_option maxRecDepth 100000
set_option maxHeartbeats 8000000
namespace Go.Proofs.YtjogmckaakkomaaGreat
open Go.ChangeShapes Go.WideShapes Go.ChangeAt Go.RowKit Go.Joins Go.Shelf Go.Maps
def TreeV.lvlZ (t : TreeV) (kz z1 z2 : List Int) (L0 : List (List Int)) : Nat → List (List Int)
 | 0 => L0
 | r + 1 => t.rowZ kz z1 z2 (r + 1) (t.rootZ (r + 1) (t.lvlZ kz z1 z2 L0 r).length) (t.upZ (r + 1) (t.lvlZ kz z1 z2 L0 r)) (t.upZ (r + 1) (t.lvlZ kz z1 z2 L0 r)).length
def TreeV.topAt (t : TreeV) (kz z1 z2 : List Int) (L0 : List (List Int)) (R : Nat) : Prop := 1 ≤ R ∧ t.rootZ R (t.lvlZ kz z1 z2 L0 (R - 1)).length = true ∧ ∀ q, 1 ≤ q → q < R → t.rootZ q (t.lvlZ kz z1 z2 L0 (q - 1)).length = false
theorem TreeV.topAt_one {t : TreeV} {kz z1 z2 : List Int} {L0 : List (List Int)} {R S : Nat} (h : t.topAt kz z1 z2 L0 R) (k : t.topAt kz z1 z2 L0 S) : R = S := by
 rcases Nat.lt_trichotomy R S with h1 | h1 | h1
 ·have := k.2.2 R h.1 h1; rw [h.2.1] at this; cases this
 ·exact h1
 ·have := h.2.2 S k.1 h1; rw [k.2.1] at this; cases this
theorem TreeV.rootZ_last {t : TreeV} {row n : Nat} (h : (row : Int) = t.p - 1) : t.rootZ row n = true := decide_eq_true (.inr (.inl h))
theorem TreeV.fn_pos {t : TreeV} (h : t.validE = 0) {row n : Nat} (hr : t.rootZ row n = false) : 2 ≤ t.fn ∧ t.fn < n ∧ t.fn ≤ 255 := by
 have h1 := (TreeV.valid_facts h).2.2.2.2.2.1
 have h2 : ¬ (t.f = 0 ∨ (row : Int) = t.p - 1 ∨ (n : Int) ≤ t.f) := of_decide_eq_false hr
 unfold TreeV.fn
 omega
theorem TreeV.upZ_len {t : TreeV} (h : t.validE = 0) (row : Nat) {L : List (List Int)} (hL : L ≠ []) : 1 ≤ (t.upZ row L).length ∧ (t.upZ row L).length ≤ L.length := by
 have hp := List.length_pos_iff.2 hL
 unfold TreeV.upZ
 cases hr : t.rootZ row L.length with
 | true => exact ⟨Nat.le_refl _, hp⟩
 | false =>
  have := TreeV.fn_pos h hr
  rw [if_neg (by simp), flats_length]
  exact ⟨cdiv_pos hp, cdiv_le (by omega)⟩
theorem TreeV.upZ_item (t : TreeV) (row : Nat) (L : List (List Int)) (i : Nat) : (nthL (t.upZ row L) i).length ≤ L.flatten.length := by
 unfold TreeV.upZ
 split
 ·cases i <;> simp [nthL]
 ·unfold nthL flats
  rw [List.getD_eq_getElem?_getD, List.getElem?_map]
  cases (List.range (cdiv L.length t.fn))[i]? with
  | none => simp
  | some j => exact flatten_le_of_sub (piece_sub t.fn L j)
theorem TreeV.node_len (t : TreeV) (kz z1 z2 : List Int) (row i : Nat) (la rt : Bool) (d : List Int) : (t.node kz z1 z2 row i la rt d).length ≤ 64 := by
 have h1 : (outZ t.big (h0Z t.big (t.blk z1 z2 row i)) (keyZ (bB t.big) (keyL row kz) ++ d) la).length = mB t.big := outZ_length _ _ _ _
 have h2 : mB t.big ≤ 64 := by cases t.big <;> decide
 unfold TreeV.node callR
 rw [List.length_take]; omega
theorem TreeV.rowZ_item (t : TreeV) (kz z1 z2 : List Int) (row : Nat) (rt : Bool) (L : List (List Int)) (m : Nat) : ∀ z ∈ t.rowZ kz z1 z2 row rt L m, z.length ≤ 64 := fun z hz => by
 obtain ⟨i, -, rfl⟩ := List.mem_map.1 hz
 exact TreeV.node_len ..
theorem flatten_len64 : ∀ {L : List (List Int)}, (∀ z ∈ L, z.length ≤ 64) → L.flatten.length ≤ 64 * L.length
 | [], _ => Nat.le_refl _
 | z :: L, h => by
  have h1 := h z (List.mem_cons_self ..)
  have h2 := flatten_len64 (L := L) (fun y hy => h y (List.mem_cons_of_mem _ hy))
  simp only [List.flatten_cons, List.length_append, List.length_cons]; omega
theorem TreeV.lvlZ_facts {t : TreeV} (h : t.validE = 0) (kz z1 z2 : List Int) {L0 : List (List Int)} (h0 : L0 ≠ []) (h1 : ∀ z ∈ L0, z.length ≤ 64) : ∀ r, t.lvlZ kz z1 z2 L0 r ≠ [] ∧ (t.lvlZ kz z1 z2 L0 r).length ≤ L0.length ∧ ∀ z ∈ t.lvlZ kz z1 z2 L0 r, z.length ≤ 64
 | 0 => ⟨h0, Nat.le_refl _, h1⟩
 | r + 1 => by
  obtain ⟨i1, i2, i3⟩ := TreeV.lvlZ_facts h kz z1 z2 h0 h1 r
  have hu := TreeV.upZ_len h (r + 1) i1
  have hl : (t.lvlZ kz z1 z2 L0 (r + 1)).length = (t.upZ (r + 1) (t.lvlZ kz z1 z2 L0 r)).length := TreeV.rowZ_length ..
  exact ⟨List.length_pos_iff.1 (by omega), by omega, fun z hz => TreeV.rowZ_item _ _ _ _ _ _ _ _ z hz⟩
theorem cdiv_one {n d : Nat} (h1 : 1 ≤ n) (h2 : n ≤ d) : cdiv n d = 1 := by
 have := cdiv_pos (d := d) h1
 have h3 : ¬ 1 < cdiv n d := fun h => by have := (lt_cdiv (n := n) (d := d) (j := 1) (by omega)).1 h; omega
 omega
theorem TreeV.upZ_rows {t : TreeV} (hv : t.validE = 0) {row : Nat} (hr : 1 ≤ row) {L : List (List Int)} (hL : L ≠ []) :
  (t.upZ row L).length = rowNext t.fn t.pn row L.length ∧ (t.rootZ row L.length = true ↔ rowNext t.fn t.pn row L.length = 1) := by
 have hp := List.length_pos_iff.2 hL
 have hvf := TreeV.valid_facts hv
 have e1 : (t.f = 0) ↔ t.fn = 0 := by unfold TreeV.fn; omega
 have e2 : ((row : Int) = t.p - 1) ↔ row = t.pn - 1 := by unfold TreeV.pn; omega
 unfold TreeV.upZ rowNext
 by_cases hc : t.fn = 0 ∨ row = t.pn - 1
 ·have hrt : t.rootZ row L.length = true := decide_eq_true (by rcases hc with h | h; exact .inl (e1.2 h); exact .inr (.inl (e2.2 h)))
  rw [if_pos hrt, if_pos hc]
  exact ⟨rfl, by simp [hrt]⟩
 ·rw [if_neg hc]
  cases hrt : t.rootZ row L.length with
  | true =>
   have h3 : t.f = 0 ∨ (row : Int) = t.p - 1 ∨ (L.length : Int) ≤ t.f := of_decide_eq_true hrt
   have h4 : L.length ≤ t.fn := by unfold TreeV.fn; omega
   rw [cdiv_one hp h4]
   exact ⟨rfl, by simp⟩
  | false =>
   have h3 := TreeV.fn_pos hv hrt
   rw [if_neg (by simp), flats_length]
   refine ⟨rfl, by simp, fun h => ?_⟩
   have := cdiv_ge (k := 1) (d := t.fn) (m := L.length) (by omega) (by omega)
   omega
theorem TreeV.lvl_rows {t : TreeV} {total : Nat} (he : t.err total = 0) (kz z1 z2 : List Int) {L0 : List (List Int)} (h0 : L0.length = lvs total t.ln) (h1 : ∀ z ∈ L0, z.length ≤ 64) : ∀ r, r < (t.rowsOf total).length → (t.lvlZ kz z1 z2 L0 r).length = nth (t.rowsOf total) r
 | 0, _ => by rw [(TreeV.rows_is he).first]; exact h0
 | r + 1, hr => by
  have hv := TreeV.err_valid he
  have hL0 : L0 ≠ [] := List.length_pos_iff.1 (by rw [h0]; unfold lvs; omega)
  have ih := TreeV.lvl_rows he kz z1 z2 h0 h1 r (by omega)
  have hf := TreeV.lvlZ_facts hv kz z1 z2 hL0 h1 r
  have hu := TreeV.upZ_rows hv (row := r + 1) (by omega) hf.1
  have hl : (t.lvlZ kz z1 z2 L0 (r + 1)).length = (t.upZ (r + 1) (t.lvlZ kz z1 z2 L0 r)).length := TreeV.rowZ_length ..
  rw [hl, hu.1, (TreeV.rows_is he).next r hr, ih]
theorem node_spot {t : TreeV} {total : Nat} (he : t.err total = 0) (kz z1 z2 : List Int) {L0 : List (List Int)} (h0 : L0.length = lvs total t.ln) (h1 : ∀ z ∈ L0, z.length ≤ 64) {r : Nat} (hr : r + 1 < (t.rowsOf total).length) {Lb D : List (List Int)} (hLb : t.lvlZ kz z1 z2 L0 r = Lb) (hD : t.upZ (r + 1) Lb = D) {i : Nat} (hi : i < D.length) :
  t.there total ((r + 1 : Nat) : Int) i ∧ ∃ a b, t.spot total (r + 1) i = ⟨r + 1, i, a, b, decide (i + 1 = D.length), t.rootZ (r + 1) Lb.length⟩ ∧ a ≤ b ∧ b ≤ Lb.length ∧ nthL D i = ((Lb.drop a).take (b - a)).flatten := by
 have hv := TreeV.err_valid he
 have hL0 : L0 ≠ [] := List.length_pos_iff.1 (by rw [h0]; unfold lvs; omega)
 have hf := TreeV.lvlZ_facts hv kz z1 z2 hL0 h1 r
 have hb := TreeV.lvl_rows he kz z1 z2 h0 h1 r (by omega)
 have hn := (TreeV.rows_is he).next r hr
 rw [hLb] at hf hb
 have hu := TreeV.upZ_rows hv (row := r + 1) (by omega) hf.1
 rw [hb, ← hn, hD] at hu
 obtain ⟨hu1, hu2⟩ := hu
 have hp := List.length_pos_iff.2 hf.1
 refine ⟨⟨by omega, by rw [Int.toNat_natCast]; exact hr, by rw [Int.toNat_natCast, ← hu1]; exact hi⟩, ?_⟩
 unfold TreeV.spot spotIn
 rw [Nat.add_sub_cancel, if_neg (by omega : ¬ r + 1 = 0), ← hb]
 cases hrt : t.rootZ (r + 1) Lb.length with
 | true =>
  rw [← hb] at hu2
  have h1 := hu2.1 hrt
  rw [if_pos ⟨by omega, h1⟩]
  refine ⟨0, Lb.length, ?_, Nat.zero_le _, Nat.le_refl _, ?_⟩
  ·rw [h1, hu1, h1]
   congr 1
   rw [decide_eq_decide]; omega
  ·have hDe : D = [Lb.flatten] := by rw [← hD]; unfold TreeV.upZ; rw [if_pos hrt]
   have : i = 0 := by rw [hDe] at hi; simp at hi; omega
   subst this
   rw [hDe, List.drop_zero, Nat.sub_zero, List.take_length]; rfl
 | false =>
  rw [← hb, hrt] at hu2
  have h1 : ¬ nth (t.rowsOf total) (r + 1) = 1 := fun h => by have := hu2.2 h; cases this
  have hfn := TreeV.fn_pos hv hrt
  have hDe : D = flats t.fn Lb (cdiv Lb.length t.fn) := by rw [← hD]; unfold TreeV.upZ; rw [if_neg (by rw [hrt]; simp)]
  have hDl : D.length = cdiv Lb.length t.fn := by rw [hDe, flats_length]
  have hit : nthL D i = ((Lb.drop (i * t.fn)).take t.fn).flatten := by
   rw [hDl] at hi
   rw [hDe]
   simp [nthL, flats, piece, List.getD_eq_getElem?_getD, hi]
  have hil : i * t.fn < Lb.length := (lt_cdiv (by omega)).1 (by omega)
  rw [if_neg (by rintro ⟨-, h⟩; exact h1 h)]
  by_cases h : i = nth (t.rowsOf total) (r + 1) - 1
  ·rw [if_pos h]
   refine ⟨i * t.fn, Lb.length, ?_, by omega, Nat.le_refl _, ?_⟩
   ·rw [decide_eq_true (by omega), if_neg (by omega : ¬ r + 1 = 0)]
   ·rw [hit]
    have hd : (Lb.drop (i * t.fn)).length = Lb.length - i * t.fn := by simp
    have hle : Lb.length - i * t.fn ≤ t.fn := by
     have := cdiv_ge (m := Lb.length) (d := t.fn) (k := i + 1) (by omega) (by omega)
     rw [Nat.add_mul, Nat.one_mul] at this
     omega
    rw [List.take_of_length_le (by omega), List.take_of_length_le (by omega)]
  ·rw [if_neg h]
   have h3 : i + 1 < cdiv Lb.length t.fn := by omega
   have h4 := (lt_cdiv (by omega)).1 h3
   refine ⟨i * t.fn, (i + 1) * t.fn, ?_, Nat.mul_le_mul_right _ (by omega), by omega, ?_⟩
   ·rw [decide_eq_false (by omega)]
   ·rw [hit, Nat.add_mul, Nat.one_mul, Nat.add_sub_cancel_left]
theorem top_rows {t : TreeV} {total : Nat} (he : t.err total = 0) (kz z1 z2 : List Int) {L0 : List (List Int)} (h0 : L0.length = lvs total t.ln) (h1 : ∀ z ∈ L0, z.length ≤ 64) : t.topAt kz z1 z2 L0 ((t.rowsOf total).length - 1) := by
 have hv := TreeV.err_valid he
 have hL0 : L0 ≠ [] := List.length_pos_iff.1 (by rw [h0]; unfold lvs; omega)
 have hR := TreeV.rows_is he
 have hlen := hR.len
 have key : ∀ q, 1 ≤ q → q < (t.rowsOf total).length → (t.rootZ q (t.lvlZ kz z1 z2 L0 (q - 1)).length = true ↔ nth (t.rowsOf total) q = 1) := fun q h2 h3 => by
  have hf := TreeV.lvlZ_facts hv kz z1 z2 hL0 h1 (q - 1)
  have hu := (TreeV.upZ_rows hv h2 hf.1).2
  have hb := TreeV.lvl_rows he kz z1 z2 h0 h1 (q - 1) (by omega)
  have hn := hR.next (q - 1) (by omega)
  rw [Nat.sub_add_cancel h2] at hn
  rw [hu, hb, hn]
 refine ⟨by omega, (key _ (by omega) (by omega)).2 hR.last, fun q h2 h3 => ?_⟩
 have := (key q h2 (by omega))
 cases hrt : t.rootZ q (t.lvlZ kz z1 z2 L0 (q - 1)).length with
 | false => rfl
 | true => exact absurd (this.1 hrt) (hR.more q h2 (by omega))
end Go.Proofs.YtjogmckaakkomaaGreat
namespace Go.Proofs.YtjogmckaakkomaaGreat
open Go.ChangeShapes Go.WideShapes Go.ChangeAt Go.RowKit Go.Joins Go.Shelf Go.Maps
attribute [local go_sem] Oper.semAt_some
theorem ListO.get {B : Nat} {w : World} {v : Value} {L : List (List Int)} (h : ListO B w v L) {i : Nat} (hi : i < L.length) : ∃ g cap x, v = .slice (some ⟨g, 0, none⟩) L.length cap ∧ g < w.heap.size ∧ w.cell? ⟨g, i, none⟩ = some x ∧ OwnB B w x (nthL L i) := by
 obtain ⟨vs, ho, hx⟩ := h
 have hl : vs.length = L.length := by have := ho.1; simpa using this
 rcases ho.2 with ⟨rfl, h0⟩ | ⟨g, cap, cur, rfl, h1, h2, h3, h4, h5, h6⟩
 ·omega
 ·refine ⟨g, cap, vs.getD i undef, rfl, (Array.getElem?_eq_some_iff.1 h2).1, ?_, hx i hi⟩
  rw [cell_of_heap h2 i]
  have e : cur.toList[i]? = vs[i]? := by rw [← h6, List.getElem?_take, if_pos (by omega)]
  rw [← Array.getElem?_toList, e, List.getD_eq_getElem?_getD, List.getElem?_eq_getElem (by omega)]; rfl
end Go.Proofs.YtjogmckaakkomaaGreat
