/- The leaves' calls and outputs, by the reference. No condition. -/
import Derived.Test.YtchepcilkcdemaaS32
import Derived.Test.YtchepcilkcdemaaS33
set_option linter.all false
set_option maxRecDepth 100000
set_option maxHeartbeats 8000000
namespace Go.Proofs.Ytchepcilkcdemaa
open Go.ChangeShapes Go.WideShapes Go.ChangeAt Go.RowKit Go.Joins Go.Shelf Go.Maps
attribute [local go_sem] Oper.semAt_some
theorem hold_sub {w : World} {a : Option Addr} {n c lo hi : Nat} {zs : List Int} (h : Hold w (.slice a n c) zs) (h1 : lo ≤ hi) (h2 : hi ≤ zs.length) : Hold w (.slice (if c = lo then a else a.map (·.add lo)) (hi - lo) (c - lo)) ((zs.drop lo).take (hi - lo)) := by
 refine ⟨fun z hz => h.1 z (List.mem_of_mem_drop (List.mem_of_mem_take hz)), ?_⟩
 have hl : ((zs.drop lo).take (hi - lo)).length = hi - lo := by simp; omega
 rcases h.2 with ⟨rfl, e⟩ | ⟨ad, cap, e, k1, k2, k3⟩
 ·simp only [Value.slice.injEq] at e
  obtain ⟨rfl, -, rfl⟩ := e
  simp only [List.length_nil] at h2
  exact .inl ⟨by simp, by rw [show hi - lo = 0 by omega, Nat.zero_sub]; cases lo <;> rfl⟩
 ·simp only [Value.slice.injEq] at e
  obtain ⟨rfl, -, rfl⟩ := e
  by_cases hc : c = lo
  ·rw [if_pos hc]
   exact .inr ⟨ad, c - lo, by rw [hl], by rw [hl]; omega, by omega, .inl (List.eq_nil_of_length_eq_zero (by omega))⟩
  ·rw [if_neg hc]
   refine .inr ⟨ad.add lo, c - lo, by rw [hl]; rfl, by rw [hl]; omega, by omega, ?_⟩
   by_cases h0 : (zs.drop lo).take (hi - lo) = []
   ·exact .inl h0
   rcases k3 with k3 | ⟨b, off, rfl, k3, k4⟩
   ·rw [k3] at h0; simp at h0
   ·refine .inr ⟨b, off + lo, Go.WideShapes.add_plain _ _ _, k3, fun i hi => ?_⟩
    rw [hl] at hi
    rw [show off + lo + i = off + (lo + i) by omega, k4 (lo + i) (by omega)]
    simp [nthz, List.getD_eq_getElem?_getD, List.getElem?_take, List.getElem?_drop, hi]
theorem cutZ_length {n : Nat} (zs : List Int) (hn : 1 ≤ n) : (cutZ n zs).length = lvs zs.length n := by
 unfold cutZ lvs
 split
 ·rename_i h
  subst h
  simp [cdiv]
 ·rename_i h
  have h1 := List.length_pos_iff.2 h
  rw [pieces_length]
  have := cdiv_pos (d := n) (show 1 ≤ zs.length from h1)
  omega
/-- A leaf's place. -/
theorem leaf_spot {t : TreeV} {zs : List Int} (he : t.err zs.length = 0) (hn : 1 ≤ t.ln) {i : Nat} (hi : i < (cutZ t.ln zs).length) :
  t.there zs.length ((0 : Nat) : Int) i ∧ ∃ a b, t.spot zs.length 0 i = ⟨0, i, a, b, decide (i + 1 = (cutZ t.ln zs).length), false⟩ ∧ a ≤ b ∧ b ≤ zs.length ∧ nthL (cutZ t.ln zs) i = (zs.drop a).take (b - a) := by
 have hR := TreeV.rows_is he
 have hcl := cutZ_length zs hn
 have hf := hR.first
 have h2 := hR.len
 refine ⟨⟨by omega, by show 0 < _; omega, by show i < nth _ 0; rw [hf]; omega⟩, ?_⟩
 unfold TreeV.spot spotIn
 rw [if_neg (by omega)]
 simp only [if_true]
 have hnth : nthL (cutZ t.ln zs) i = (zs.drop (i * t.ln)).take t.ln := by
  unfold cutZ at hi ⊢
  split
  ·rename_i h
   subst h
   have : i = 0 := by simp at hi; omega
   subst this
   simp [nthL]
  ·rename_i h
   rw [if_neg h, pieces_length] at hi
   simp [nthL, pieces, piece, List.getD_eq_getElem?_getD, List.getElem?_map, hi]
 have hil : i * t.ln ≤ zs.length := lvs_lt hn (by omega)
 by_cases h : i = nth (t.rowsOf zs.length) 0 - 1
 ·rw [if_pos h]
  refine ⟨i * t.ln, zs.length, ?_, hil, Nat.le_refl _, ?_⟩
  ·rw [decide_eq_true (by rw [hf] at h; omega)]
  ·rw [hnth]
   have hd : (zs.drop (i * t.ln)).length = zs.length - i * t.ln := by simp
   have hle : zs.length - i * t.ln ≤ t.ln := by
    have hc : cdiv zs.length t.ln ≤ i + 1 := by
     rw [hf] at h; unfold lvs at h hcl; omega
    have := cdiv_ge hn hc
    rw [Nat.add_mul, Nat.one_mul] at this
    omega
   rw [List.take_of_length_le (by omega), List.take_of_length_le (by omega)]
 ·rw [if_neg h]
  have h3 : i + 1 < lvs zs.length t.ln := by rw [hf] at h; omega
  refine ⟨i * t.ln, (i + 1) * t.ln, ?_, Nat.mul_le_mul_right _ (by omega), lvs_lt hn h3, ?_⟩
  ·rw [decide_eq_false (by omega)]
  ·rw [hnth, Nat.add_mul, Nat.one_mul, Nat.add_sub_cancel_left]
theorem keyH {t : TreeV} {kz z1 z2 : List Int} {w W : World} (h : TreeOk t kz z1 z2 w) (row : Nat) (hb : Below w.heap.size w W) (B : Nat) : KeepH w B W (keyV row (.slice t.ka t.kl t.kc)) (keyL row kz) ∧ ∃ a n c, keyV row (.slice t.ka t.kl t.kc) = .slice a n c := by
 unfold keyV keyL
 split
 ·exact ⟨.inr ⟨h.k, hb⟩, _, _, _, rfl⟩
 ·exact ⟨.inl ⟨fun _ h => by simp at h, .inl ⟨rfl, rfl⟩⟩, _, _, _, rfl⟩
end Go.Proofs.Ytchepcilkcdemaa
