/- A block's numbers lie in it: laid anew they give the block. Plain. No condition. -/
import Derived.Test.YtchepcilkcdemaaS24
set_option linter.all false
set_option maxRecDepth 100000
set_option maxHeartbeats 8000000
namespace Go.Proofs.Ytchepcilkcdemaa
open Go.ChangeShapes Go.WideShapes Go.ChangeAt Go.RowKit Go.Joins Go.Shelf Go.Maps
theorem byt_val {zs : List Int} (hz : ∀ z ∈ zs, 0 ≤ z ∧ z ≤ 255) (p : Nat) : ∀ n, p + n ≤ zs.length → ∀ j, byt (valZ zs p n).toNat j = if j < n then nthz zs (p + j) else 0
  | 0, _, j => by simp [valZ, byt, quoB]
  | n + 1, h, j => by
    have ih := byt_val hz p n (by omega) j
    have hb := valZ_bounds (zs := zs) hz (at_ := p) n (by omega)
    obtain ⟨-, z1, z2⟩ := mem_nthz hz (show p + n < zs.length by omega)
    obtain ⟨z, hzz⟩ : ∃ z : Nat, nthz zs (p + n) = z := ⟨(nthz zs (p + n)).toNat, by omega⟩
    obtain ⟨a, ha⟩ : ∃ a : Nat, valZ zs p n = a := ⟨(valZ zs p n).toNat, by omega⟩
    have hpw : (2 : Int) ^ (8 * n) = ((256 ^ n : Nat) : Int) := by
      rw [Int.pow_mul]; norm_cast
    have ha2 : a < 256 ^ n := by
      have := hb.2; rw [ha, hpw] at this; exact_mod_cast this
    have e : (valZ zs p (n + 1)).toNat = a + z * 256 ^ n := by
      rw [valZ, ha, hzz, hpw, ← Int.natCast_mul, ← Int.natCast_add, Int.toNat_natCast]
    rw [ha, Int.toNat_natCast] at ih
    rw [e]
    unfold byt quoB at ih ⊢
    by_cases h1 : j < n
    · rw [if_pos h1] at ih
      rw [if_pos (by omega), ← ih]
      have e2 : 256 ^ n = 256 ^ j * (256 * 256 ^ (n - j - 1)) := by
        rw [← Nat.pow_succ', ← Nat.pow_add]; congr 1; omega
      rw [e2, show z * (256 ^ j * (256 * 256 ^ (n - j - 1))) = 256 ^ j * (256 * (z * 256 ^ (n - j - 1))) by
        rw [Nat.mul_left_comm z, Nat.mul_left_comm z], Nat.add_mul_div_left _ _ (Nat.pow_pos (by omega)), Nat.add_mul_mod_self_left]
    · by_cases h2 : j = n
      · subst h2
        rw [if_pos (by omega), Nat.add_mul_div_right _ _ (Nat.pow_pos (by omega)), Nat.div_eq_of_lt ha2, Nat.zero_add, hzz]
        have : z % 256 = z := Nat.mod_eq_of_lt (by omega)
        rw [this]
      · rw [if_neg (by omega)]
        have : a + z * 256 ^ n < 256 ^ j := by
          have h3 : 256 ^ (n + 1) ≤ 256 ^ j := Nat.pow_le_pow_right (by omega) (by omega)
          have h4 : z * 256 ^ n ≤ 255 * 256 ^ n := Nat.mul_le_mul_right _ (by omega)
          have h5 : 256 ^ (n + 1) = 256 * 256 ^ n := Nat.pow_succ'
          omega
        rw [Nat.div_eq_of_lt this]; rfl
theorem nthz_trim {x : List Int} {j : Nat} (hj : j < x.length) : nthz x j = if j < (trimZ x).length then nthz (trimZ x) j else 0 := by
  have hl : (trimZ x).length = trimL x x.length := by unfold trimZ; have := trimL_le x x.length; simp; omega
  rw [hl]
  by_cases h : j < trimL x x.length
  · rw [if_pos h]; unfold trimZ nthz; simp [List.getD_eq_getElem?_getD, List.getElem?_take, h]
  · rw [if_neg h]; exact trimL_zero x _ _ (by omega) hj
theorem encF_get (big x0 : Bool) (v : Nat → Nat) {k : Nat} (hk : k + 1 ≤ 9) (i : Nat) :
    nthz (encF big x0 v (k + 1)) i = if ¬ (k + 1 = 7 ∧ x0 = true) ∧ atB big (k + 1) ≤ i ∧ i < atB big (k + 1) + szB big (k + 1) then byt (v (k + 1)) (i - atB big (k + 1)) else nthz (encF big x0 v k) i := by
  have hs := szE_bounds big false (k + 1) (by omega) (by omega)
  have e : szE big false (k + 1) = szB big (k + 1) := by simp [szE]
  rw [e] at hs
  have hm : 32 ≤ mB big := by cases big <;> decide
  rw [encF]
  by_cases h : k + 1 = 7 ∧ x0 = true
  · rw [if_pos h, if_neg (fun h2 => h2.1 h)]
  · rw [if_neg h, setL_get (by rw [bytesK_length, encF_length big x0 v k (by omega)]; omega), bytesK_length]
    by_cases h2 : atB big (k + 1) ≤ i ∧ i < atB big (k + 1) + szB big (k + 1)
    · rw [if_pos h2, if_pos ⟨h, h2⟩]
      simp [nthz, bytesK, List.getD_eq_getElem?_getD, show i - atB big (k + 1) < szB big (k + 1) by omega]
    · rw [if_neg h2, if_neg (fun h3 => h2 h3.2)]
theorem encF_zero (big x0 : Bool) (v : Nat → Nat) (i : Nat) : nthz (encF big x0 v 0) i = 0 := by
  unfold encF nthz
  simp only [List.getD_eq_getElem?_getD, List.getElem?_replicate]
  split <;> rfl
/-- The fields give the bytes ahead of the salt. -/
theorem encF_dec {big ext : Bool} {zs : List Int} (hz : ∀ z ∈ zs, 0 ≤ z ∧ z ≤ 255) (hl : zs.length = mB big) (hm : big = true → ∀ i, 18 ≤ i → i < 32 → nthz zs i = 0) (hx : ext = true → xoZ big ext zs ≠ 0) {i : Nat} (hi : i < 2 * sB big) :
    nthz (encF big (decV big ext zs 7 == 0) (decV big ext zs) 9) i = nthz zs i := by
  have hv : ∀ f, 1 ≤ f → f ≤ 9 → ¬ (f = 7 ∧ ext = false) → decV big ext zs f = (valZ zs (atB big f) (szE big ext f)).toNat := fun f h1 h2 h3 => by
    have := decV_eq (big := big) (ext := ext) hz hl h1 h2 h3; omega
  have hb : ∀ f j, 1 ≤ f → f ≤ 9 → ¬ (f = 7 ∧ ext = false) → byt (decV big ext zs f) j = if j < szE big ext f then nthz zs (atB big f + j) else 0 := fun f j h1 h2 h3 => by
    rw [hv f h1 h2 h3]
    have hs := szE_bounds big ext f h1 h2
    exact byt_val hz _ _ (by rw [hl]; cases big
                             · have := hs.2.2.2 rfl; show _ ≤ 32; omega
                             · show _ ≤ 64; omega) j
  have hx0 : (decV big ext zs 7 == 0) = !ext := by
    cases ext
    · rfl
    · have h7 : ((decV big true zs 7 : Nat) : Int) = xoZ big true zs := by
        rw [decV_eq hz hl (by omega) (by omega) (by simp)]; cases big <;> rfl
      have := hx rfl
      rw [Bool.not_true, beq_eq_false_iff_ne]
      omega
  rw [hx0]
  rw [encF_get _ _ _ (k := 8) (by omega), encF_get _ _ _ (k := 7) (by omega), encF_get _ _ _ (k := 6) (by omega), encF_get _ _ _ (k := 5) (by omega), encF_get _ _ _ (k := 4) (by omega), encF_get _ _ _ (k := 3) (by omega), encF_get _ _ _ (k := 2) (by omega), encF_get _ _ _ (k := 1) (by omega), encF_get _ _ _ (k := 0) (by omega), encF_zero]
  rw [hb 9 _ (by omega) (by omega) (by omega), hb 8 _ (by omega) (by omega) (by omega), hb 6 _ (by omega) (by omega) (by omega), hb 5 _ (by omega) (by omega) (by omega), hb 4 _ (by omega) (by omega) (by omega), hb 3 _ (by omega) (by omega) (by omega), hb 2 _ (by omega) (by omega) (by omega), hb 1 _ (by omega) (by omega) (by omega)]
  cases big
  · have hi : i < 16 := hi
    rcases (show i = 0 ∨ i = 1 ∨ i = 2 ∨ i = 3 ∨ i = 4 ∨ i = 5 ∨ i = 6 ∨ i = 7 ∨ i = 8 ∨ i = 9 ∨ i = 10 ∨ i = 11 ∨ i = 12 ∨ i = 13 ∨ i = 14 ∨ i = 15 by omega) with rfl | rfl | rfl | rfl | rfl | rfl | rfl | rfl | rfl | rfl | rfl | rfl | rfl | rfl | rfl | rfl <;> cases ext <;> simp [atB, szB, szE] <;> (rw [hb 7 _ (by omega) (by omega) (by simp)]; simp [atB, szB, szE])
  · have hi : i < 32 := hi
    by_cases h18 : 18 ≤ i
    · rw [hm rfl i h18 hi]
      have n1 : ∀ f, 1 ≤ f → f ≤ 9 → ¬ (atB true f ≤ i ∧ i < atB true f + szB true f) := fun f h1 h2 h3 => by
        have hs := szE_bounds true false f h1 h2
        rw [show szE true false f = szB true f by simp [szE]] at hs
        omega
      rw [if_neg (fun h => n1 9 (by omega) (by omega) h.2), if_neg (fun h => n1 8 (by omega) (by omega) h.2), if_neg (fun h => n1 7 (by omega) (by omega) h.2), if_neg (fun h => n1 6 (by omega) (by omega) h.2), if_neg (fun h => n1 5 (by omega) (by omega) h.2), if_neg (fun h => n1 4 (by omega) (by omega) h.2), if_neg (fun h => n1 3 (by omega) (by omega) h.2), if_neg (fun h => n1 2 (by omega) (by omega) h.2), if_neg (fun h => n1 1 (by omega) (by omega) h.2)]
    · rcases (show i = 0 ∨ i = 1 ∨ i = 2 ∨ i = 3 ∨ i = 4 ∨ i = 5 ∨ i = 6 ∨ i = 7 ∨ i = 8 ∨ i = 9 ∨ i = 10 ∨ i = 11 ∨ i = 12 ∨ i = 13 ∨ i = 14 ∨ i = 15 ∨ i = 16 ∨ i = 17 by omega) with rfl | rfl | rfl | rfl | rfl | rfl | rfl | rfl | rfl | rfl | rfl | rfl | rfl | rfl | rfl | rfl | rfl | rfl <;> cases ext <;> simp [atB, szB, szE] <;> (rw [hb 7 _ (by omega) (by omega) (by simp)]; simp [atB, szB, szE])
theorem blkP_dec {big ext : Bool} {zs : List Int} (hz : ∀ z ∈ zs, 0 ≤ z ∧ z ≤ 255) (h : okD big ext zs) : blkP big (decV big ext zs) (saltZ big zs) (persZ big zs) = zs := by
  obtain ⟨hl, hm, hx, -⟩ := h
  have hM : mB big = 4 * sB big := by cases big <;> rfl
  have hle : ∀ x : List Int, (trimZ x).length ≤ x.length := fun x => by unfold trimZ; rw [List.length_take]; omega
  have e1 : ((zs.drop (2 * sB big)).take (sB big)).length = sB big := by simp; omega
  have e2 : ((zs.drop (3 * sB big)).take (sB big)).length = sB big := by simp; omega
  have l1 : (saltZ big zs).length ≤ sB big := Nat.le_trans (hle _) (by omega)
  have l2 : (persZ big zs).length ≤ sB big := Nat.le_trans (hle _) (by omega)
  have hF := encF_length big (decV big ext zs 7 == 0) (decV big ext zs) 9 (by omega)
  have hlen := blkP_length (big := big) (v := decV big ext zs) l1 l2
  have hz0 : ∀ i, 2 * sB big ≤ i → nthz (encF big (decV big ext zs 7 == 0) (decV big ext zs) 9) i = 0 := fun i hi => by
    have hs16 : 16 ≤ 2 * sB big ∧ (big = true → 18 ≤ 2 * sB big) := by cases big <;> decide
    have n1 : ∀ f, 1 ≤ f → f ≤ 9 → ¬ (atB big f ≤ i ∧ i < atB big f + szB big f) := fun f h1 h2 h3 => by
      have hs := szE_bounds big false f h1 h2
      rw [show szE big false f = szB big f by simp [szE]] at hs
      cases big
      · have := hs.2.2.2 rfl; omega
      · have := hs16.2 rfl; omega
    rw [encF_get _ _ _ (k := 8) (by omega), encF_get _ _ _ (k := 7) (by omega), encF_get _ _ _ (k := 6) (by omega), encF_get _ _ _ (k := 5) (by omega), encF_get _ _ _ (k := 4) (by omega), encF_get _ _ _ (k := 3) (by omega), encF_get _ _ _ (k := 2) (by omega), encF_get _ _ _ (k := 1) (by omega), encF_get _ _ _ (k := 0) (by omega), encF_zero]
    rw [if_neg (fun h => n1 9 (by omega) (by omega) h.2), if_neg (fun h => n1 8 (by omega) (by omega) h.2), if_neg (fun h => n1 7 (by omega) (by omega) h.2), if_neg (fun h => n1 6 (by omega) (by omega) h.2), if_neg (fun h => n1 5 (by omega) (by omega) h.2), if_neg (fun h => n1 4 (by omega) (by omega) h.2), if_neg (fun h => n1 3 (by omega) (by omega) h.2), if_neg (fun h => n1 2 (by omega) (by omega) h.2), if_neg (fun h => n1 1 (by omega) (by omega) h.2)]
  have key : ∀ i, i < mB big → nthz (blkP big (decV big ext zs) (saltZ big zs) (persZ big zs)) i = nthz zs i := fun i hi => by
    have hS1 : (setL (encF big (decV big ext zs 7 == 0) (decV big ext zs) 9) (2 * sB big) (saltZ big zs)).length = mB big := by rw [setL_length (by omega), hF]
    unfold blkP
    rw [setL_get (by omega), setL_get (by omega)]
    by_cases h3 : 3 * sB big ≤ i
    · have hj : i - 3 * sB big < ((zs.drop (3 * sB big)).take (sB big)).length := by omega
      have ht := nthz_trim hj
      rw [nthz_sub (by omega), show 3 * sB big + (i - 3 * sB big) = i by omega] at ht
      by_cases h4 : i < 3 * sB big + (persZ big zs).length
      · rw [if_pos ⟨h3, h4⟩]; rw [if_pos (by show _ < (persZ big zs).length; omega)] at ht; exact ht.symm
      · rw [if_neg (by omega), if_neg (by omega), hz0 i (by omega)]; rw [if_neg (by show ¬ _ < (persZ big zs).length; omega)] at ht; exact ht.symm
    · rw [if_neg (by omega)]
      by_cases h2 : 2 * sB big ≤ i
      · have hj : i - 2 * sB big < ((zs.drop (2 * sB big)).take (sB big)).length := by omega
        have ht := nthz_trim hj
        rw [nthz_sub (by omega), show 2 * sB big + (i - 2 * sB big) = i by omega] at ht
        by_cases h4 : i < 2 * sB big + (saltZ big zs).length
        · rw [if_pos ⟨h2, h4⟩]; rw [if_pos (by show _ < (saltZ big zs).length; omega)] at ht; exact ht.symm
        · rw [if_neg (by omega), hz0 i (by omega)]; rw [if_neg (by show ¬ _ < (saltZ big zs).length; omega)] at ht; exact ht.symm
      · rw [if_neg (by omega)]; exact encF_dec hz hl hm hx (by omega)
  apply List.ext_getElem (by rw [hlen, hl])
  intro i h1 h2
  have := key i (by omega)
  simpa [nthz, List.getD_eq_getElem?_getD, h1, h2] using this
end Go.Proofs.Ytchepcilkcdemaa
