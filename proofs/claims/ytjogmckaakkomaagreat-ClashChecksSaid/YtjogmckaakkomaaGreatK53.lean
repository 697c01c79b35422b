/- A block's numbers lie in it: laid anew they give the block. Plain. No condition. -/
import Derived.Test.YtjogmckaakkomaaGreatK49
import Derived.Test.YtjogmckaakkomaaGreatK51
import Derived.Test.YtjogmckaakkomaaGreatK52
namespace Go.Proofs.YtjogmckaakkomaaGreat
open Go.ChangeShapes Go.WideShapes Go.ChangeAt Go.RowKit Go.Joins Go.Shelf Go.Maps

theorem byt_val {zs : List Int} (hz : ∀ z ∈ zs, 0 ≤ z ∧ z ≤ 255) (p : Nat) : ∀ n, p + n ≤ zs.length → ∀ j, byt (valZ zs p n).toNat j = if j < n then nthz zs (p + j) else 0
  | 0, _, j => by simp [valZ, byt, quoB]
  | n + 1, h, j => by
    have ih := byt_val hz p n (by omega) j
    have hb := valZ_bounds (zs := zs) hz (at_ := p) n (by omega)
    obtain ⟨-, z1, z2⟩ := mem_nthz hz (show p + n < zs.length by omega)
    obtain ⟨z, hzz⟩ : ∃ z : Nat, nthz zs (p + n) = z := ⟨(nthz zs (p + n)).toNat, by omega⟩
    obtain ⟨a, ha⟩ : ∃ a : Nat, valZ zs p n = a := ⟨(valZ zs p n).toNat, by omega⟩
    have hpw : (2 : Int) ^ (8 * n) = ((256 ^ n : Nat) : Int) := by
      rw [Int.pow_mul]; norm_cast
    have ha2 : a < 256 ^ n := by
      have := hb.2; rw [ha, hpw] at this; exact_mod_cast this
    have e : (valZ zs p (n + 1)).toNat = a + z * 256 ^ n := by
      rw [valZ, ha, hzz, hpw, ← Int.natCast_mul, ← Int.natCast_add, Int.toNat_natCast]
    rw [ha, Int.toNat_natCast] at ih
    rw [e]
    unfold byt quoB at ih ⊢
    by_cases h1 : j < n
    · rw [if_pos h1] at ih
      rw [if_pos (by omega), ← ih]
      have e2 : 256 ^ n = 256 ^ j * (256 * 256 ^ (n - j - 1)) := by
        rw [← Nat.pow_succ', ← Nat.pow_add]; congr 1; omega
      rw [e2, show z * (256 ^ j * (256 * 256 ^ (n - j - 1))) = 256 ^ j * (256 * (z * 256 ^ (n - j - 1))) by
        rw [Nat.mul_left_comm z, Nat.mul_left_comm z], Nat.add_mul_div_left _ _ (Nat.pow_pos (by omega)), Nat.add_mul_mod_self_left]
    · by_cases h2 : j = n
      · subst h2
        rw [if_pos (by omega), Nat.add_mul_div_right _ _ (Nat.pow_pos (by omega)), Nat.div_eq_of_lt ha2, Nat.zero_add, hzz]
        have : z % 256 = z := Nat.mod_eq_of_lt (by omega)
        rw [this]
      · rw [if_neg (by omega)]
        have : a + z * 256 ^ n < 256 ^ j := by
          have h3 : 256 ^ (n + 1) ≤ 256 ^ j := Nat.pow_le_pow_right (by omega) (by omega)
          have h4 : z * 256 ^ n ≤ 255 * 256 ^ n := Nat.mul_le_mul_right _ (by omega)
          have h5 : 256 ^ (n + 1) = 256 * 256 ^ n := Nat.pow_succ'
          omega
        rw [Nat.div_eq_of_lt this]; rfl
theorem nthz_trim {x : List Int} {j : Nat} (hj : j < x.length) : nthz x j = if j < (trimZ x).length then nthz (trimZ x) j else 0 := by
  have hl : (trimZ x).length = trimL x x.length := by unfold trimZ; have := trimL_le x x.length; simp; omega
  rw [hl]
  by_cases h : j < trimL x x.length
  · rw [if_pos h]; unfold trimZ nthz; simp [List.getD_eq_getElem?_getD, List.getElem?_take, h]
  · rw [if_neg h]; exact trimL_zero x _ _ (by omega) hj
theorem encF_get (big x0 : Bool) (v : Nat → Nat) {k : Nat} (hk : k + 1 ≤ 9) (i : Nat) :
    nthz (encF big x0 v (k + 1)) i = if ¬ (k + 1 = 7 ∧ x0 = true) ∧ atB big (k + 1) ≤ i ∧ i < atB big (k + 1) + szB big (k + 1) then byt (v (k + 1)) (i - atB big (k + 1)) else nthz (encF big x0 v k) i := by
  have hs := szE_bounds big false (k + 1) (by omega) (by omega)
  have e : szE big false (k + 1) = szB big (k + 1) := by simp [szE]
  rw [e] at hs
  have hm : 32 ≤ mB big := by cases big <;> decide
  rw [encF]
  by_cases h : k + 1 = 7 ∧ x0 = true
  · rw [if_pos h, if_neg (fun h2 => h2.1 h)]
  · rw [if_neg h, setL_get (by rw [bytesK_length, encF_length big x0 v k (by omega)]; omega), bytesK_length]
    by_cases h2 : atB big (k + 1) ≤ i ∧ i < atB big (k + 1) + szB big (k + 1)
    · rw [if_pos h2, if_pos ⟨h, h2⟩]
      simp [nthz, bytesK, List.getD_eq_getElem?_getD, show i - atB big (k + 1) < szB big (k + 1) by omega]
    · rw [if_neg h2, if_neg (fun h3 => h2 h3.2)]
theorem encF_zero (big x0 : Bool) (v : Nat → Nat) (i : Nat) : nthz (encF big x0 v 0) i = 0 := by
  unfold encF nthz
  simp only [List.getD_eq_getElem?_getD, List.getElem?_replicate]
  split <;> rfl
/-- The fields give the bytes ahead of the salt. -/
theorem encF_dec {big ext : Bool} {zs : List Int} (hz : ∀ z ∈ zs, 0 ≤ z ∧ z ≤ 255) (hl : zs.length = mB big) (hm : big = true → ∀ i, 18 ≤ i → i < 32 → nthz zs i = 0) (hx : ext = true → xoZ big ext zs ≠ 0) {i : Nat} (hi : i < 2 * sB big) :
    nthz (encF big (decV big ext zs 7 == 0) (decV big ext zs) 9) i = nthz zs i := by
  have hv : ∀ f, 1 ≤ f → f ≤ 9 → ¬ (f = 7 ∧ ext = false) → decV big ext zs f = (valZ zs (atB big f) (szE big ext f)).toNat := fun f h1 h2 h3 => by
    have := decV_eq (big := big) (ext := ext) hz hl h1 h2 h3; omega
  have hb : ∀ f j, 1 ≤ f → f ≤ 9 → ¬ (f = 7 ∧ ext = false) → byt (decV big ext zs f) j = if j < szE big ext f then nthz zs (atB big f + j) else 0 := fun f j h1 h2 h3 => by
    rw [hv f h1 h2 h3]
    have hs := szE_bounds big ext f h1 h2
    exact byt_val hz _ _ (by rw [hl]; cases big
                             · have := hs.2.2.2 rfl; show _ ≤ 32; omega
                             · show _ ≤ 64; omega) j
  have hx0 : (decV big ext zs 7 == 0) = !ext := by
    cases ext
    · rfl
    · have h7 : ((decV big true zs 7 : Nat) : Int) = xoZ big true zs := by
        rw [decV_eq hz hl (by omega) (by omega) (by simp)]; cases big <;> rfl
      have := hx rfl
      rw [Bool.not_true, beq_eq_false_iff_ne]
      omega
  rw [hx0]
  rw [encF_get _ _ _ (k := 8) (by omega), encF_get _ _ _ (k := 7) (by omega), encF_get _ _ _ (k := 6) (by omega), encF_get _ _ _ (k := 5) (by omega), encF_get _ _ _ (k := 4) (by omega), encF_get _ _ _ (k := 3) (by omega), encF_get _ _ _ (k := 2) (by omega), encF_get _ _ _ (k := 1) (by omega), encF_get _ _ _ (k := 0) (by omega), encF_zero]
  rw [hb 9 _ (by omega) (by omega) (by omega), hb 8 _ (by omega) (by omega) (by omega), hb 6 _ (by omega) (by omega) (by omega), hb 5 _ (by omega) (by omega) (by omega), hb 4 _ (by omega) (by omega) (by omega), hb 3 _ (by omega) (by omega) (by omega), hb 2 _ (by omega) (by omega) (by omega), hb 1 _ (by omega) (by omega) (by omega)]
  cases big
  · have hi : i < 16 := hi
    rcases (show i = 0 ∨ i = 1 ∨ i = 2 ∨ i = 3 ∨ i = 4 ∨ i = 5 ∨ i = 6 ∨ i = 7 ∨ i = 8 ∨ i = 9 ∨ i = 10 ∨ i = 11 ∨ i = 12 ∨ i = 13 ∨ i = 14 ∨ i = 15 by omega) with rfl | rfl | rfl | rfl | rfl | rfl | rfl | rfl | rfl | rfl | rfl | rfl | rfl | rfl | rfl | rfl <;> cases ext <;> simp [atB, szB, szE] <;> (rw [hb 7 _ (by omega) (by omega) (by simp)]; simp [atB, szB, szE])
  · have hi : i < 32 := hi
    by_cases h18 : 18 ≤ i
    · rw [hm rfl i h18 hi]
      have n1 : ∀ f, 1 ≤ f → f ≤ 9 → ¬ (atB true f ≤ i ∧ i < atB true f + szB true f) := fun f h1 h2 h3 => by
        have hs := szE_bounds true false f h1 h2
        rw [show szE true false f = szB true f by simp [szE]] at hs
        omega
      rw [if_neg (fun h => n1 9 (by omega) (by omega) h.2), if_neg (fun h => n1 8 (by omega) (by omega) h.2), if_neg (fun h => n1 7 (by omega) (by omega) h.2), if_neg (fun h => n1 6 (by omega) (by omega) h.2), if_neg (fun h => n1 5 (by omega) (by omega) h.2), if_neg (fun h => n1 4 (by omega) (by omega) h.2), if_neg (fun h => n1 3 (by omega) (by omega) h.2), if_neg (fun h => n1 2 (by omega) (by omega) h.2), if_neg (fun h => n1 1 (by omega) (by omega) h.2)]
    · rcases (show i = 0 ∨ i = 1 ∨ i = 2 ∨ i = 3 ∨ i = 4 ∨ i = 5 ∨ i = 6 ∨ i = 7 ∨ i = 8 ∨ i = 9 ∨ i = 10 ∨ i = 11 ∨ i = 12 ∨ i = 13 ∨ i = 14 ∨ i = 15 ∨ i = 16 ∨ i = 17 by omega) with rfl | rfl | rfl | rfl | rfl | rfl | rfl | rfl | rfl | rfl | rfl | rfl | rfl | rfl | rfl | rfl | rfl | rfl <;> cases ext <;> simp [atB, szB, szE] <;> (rw [hb 7 _ (by omega) (by omega) (by simp)]; simp [atB, szB, szE])
theorem blkP_dec {big ext : Bool} {zs : List Int} (hz : ∀ z ∈ zs, 0 ≤ z ∧ z ≤ 255) (h : okD big ext zs) : blkP big (decV big ext zs) (saltZ big zs) (persZ big zs) = zs := by
  obtain ⟨hl, hm, hx, -⟩ := h
  have hM : mB big = 4 * sB big := by cases big <;> rfl
  have hle : ∀ x : List Int, (trimZ x).length ≤ x.length := fun x => by unfold trimZ; rw [List.length_take]; omega
  have e1 : ((zs.drop (2 * sB big)).take (sB big)).length = sB big := by simp; omega
  have e2 : ((zs.drop (3 * sB big)).take (sB big)).length = sB big := by simp; omega
  have l1 : (saltZ big zs).length ≤ sB big := Nat.le_trans (hle _) (by omega)
  have l2 : (persZ big zs).length ≤ sB big := Nat.le_trans (hle _) (by omega)
  have hF := encF_length big (decV big ext zs 7 == 0) (decV big ext zs) 9 (by omega)
  have hlen := blkP_length (big := big) (v := decV big ext zs) l1 l2
  have hz0 : ∀ i, 2 * sB big ≤ i → nthz (encF big (decV big ext zs 7 == 0) (decV big ext zs) 9) i = 0 := fun i hi => by
    have hs16 : 16 ≤ 2 * sB big ∧ (big = true → 18 ≤ 2 * sB big) := by cases big <;> decide
    have n1 : ∀ f, 1 ≤ f → f ≤ 9 → ¬ (atB big f ≤ i ∧ i < atB big f + szB big f) := fun f h1 h2 h3 => by
      have hs := szE_bounds big false f h1 h2
      rw [show szE big false f = szB big f by simp [szE]] at hs
      cases big
      · have := hs.2.2.2 rfl; omega
      · have := hs16.2 rfl; omega
    rw [encF_get _ _ _ (k := 8) (by omega), encF_get _ _ _ (k := 7) (by omega), encF_get _ _ _ (k := 6) (by omega), encF_get _ _ _ (k := 5) (by omega), encF_get _ _ _ (k := 4) (by omega), encF_get _ _ _ (k := 3) (by omega), encF_get _ _ _ (k := 2) (by omega), encF_get _ _ _ (k := 1) (by omega), encF_get _ _ _ (k := 0) (by omega), encF_zero]
    rw [if_neg (fun h => n1 9 (by omega) (by omega) h.2), if_neg (fun h => n1 8 (by omega) (by omega) h.2), if_neg (fun h => n1 7 (by omega) (by omega) h.2), if_neg (fun h => n1 6 (by omega) (by omega) h.2), if_neg (fun h => n1 5 (by omega) (by omega) h.2), if_neg (fun h => n1 4 (by omega) (by omega) h.2), if_neg (fun h => n1 3 (by omega) (by omega) h.2), if_neg (fun h => n1 2 (by omega) (by omega) h.2), if_neg (fun h => n1 1 (by omega) (by omega) h.2)]
  have key : ∀ i, i < mB big → nthz (blkP big (decV big ext zs) (saltZ big zs) (persZ big zs)) i = nthz zs i := fun i hi => by
    have hS1 : (setL (encF big (decV big ext zs 7 == 0) (decV big ext zs) 9) (2 * sB big) (saltZ big zs)).length = mB big := by rw [setL_length (by omega), hF]
    unfold blkP
    rw [setL_get (by omega), setL_get (by omega)]
    by_cases h3 : 3 * sB big ≤ i
    · have hj : i - 3 * sB big < ((zs.drop (3 * sB big)).take (sB big)).length := by omega
      have ht := nthz_trim hj
      rw [nthz_sub (by omega), show 3 * sB big + (i - 3 * sB big) = i by omega] at ht
      by_cases h4 : i < 3 * sB big + (persZ big zs).length
      · rw [if_pos ⟨h3, h4⟩]; rw [if_pos (by show _ < (persZ big zs).length; omega)] at ht; exact ht.symm
      · rw [if_neg (by omega), if_neg (by omega), hz0 i (by omega)]; rw [if_neg (by show ¬ _ < (persZ big zs).length; omega)] at ht; exact ht.symm
    · rw [if_neg (by omega)]
      by_cases h2 : 2 * sB big ≤ i
      · have hj : i - 2 * sB big < ((zs.drop (2 * sB big)).take (sB big)).length := by omega
        have ht := nthz_trim hj
        rw [nthz_sub (by omega), show 2 * sB big + (i - 2 * sB big) = i by omega] at ht
        by_cases h4 : i < 2 * sB big + (saltZ big zs).length
        · rw [if_pos ⟨h2, h4⟩]; rw [if_pos (by show _ < (saltZ big zs).length; omega)] at ht; exact ht.symm
        · rw [if_neg (by omega), hz0 i (by omega)]; rw [if_neg (by show ¬ _ < (saltZ big zs).length; omega)] at ht; exact ht.symm
      · rw [if_neg (by omega)]; exact encF_dec hz hl hm hx (by omega)
  apply List.ext_getElem (by rw [hlen, hl])
  intro i h1 h2
  have := key i (by omega)
  simpa [nthz, List.getD_eq_getElem?_getD, h1, h2] using this
end Go.Proofs.YtjogmckaakkomaaGreat
/- A hash, by the reference. No condition. -/
namespace Go.Proofs.YtjogmckaakkomaaGreat
open Go.ChangeShapes Go.WideShapes Go.ChangeAt Go.RowKit Go.Joins Go.Shelf Go.Maps
attribute [local go_sem] Oper.semAt_some

theorem saltZ_le (big : Bool) (zs : List Int) : (saltZ big zs).length ≤ sB big := by
 unfold saltZ trimZ
 simp only [List.length_take]
 omega
theorem persZ_le (big : Bool) (zs : List Int) : (persZ big zs).length ≤ sB big := by
 unfold persZ trimZ
 simp only [List.length_take]
 omega
theorem saltZ_bounds {big : Bool} {zs : List Int} (hz : ∀ z ∈ zs, 0 ≤ z ∧ z ≤ 255) : ∀ z ∈ saltZ big zs, 0 ≤ z ∧ z ≤ 255 := fun z h => hz z (List.mem_of_mem_drop (List.mem_of_mem_take (List.mem_of_mem_take h)))
theorem persZ_bounds {big : Bool} {zs : List Int} (hz : ∀ z ∈ zs, 0 ≤ z ∧ z ≤ 255) : ∀ z ∈ persZ big zs, 0 ≤ z ∧ z ≤ 255 := fun z h => hz z (List.mem_of_mem_drop (List.mem_of_mem_take (List.mem_of_mem_take h)))
/-- What a block says is in bounds. -/
theorem parOk_dec {big ext : Bool} {zs : List Int} (hz : ∀ z ∈ zs, 0 ≤ z ∧ z ≤ 255) (h : okD big ext zs) : ParOk big (decV big ext zs) := by
 obtain ⟨hl, hm, hx, hc⟩ := h
 have H := fun f h1 h2 => fldV_bounds (big := big) (ext := ext) hz hl (f := f) h1 h2
 have hle : ∀ f, 1 ≤ f → f ≤ 9 → ((decV big ext zs f : Nat) : Int) ≤ fldV big ext zs f := fun f h1 h2 => by
  have := H f h1 h2
  unfold decV
  split <;> omega
 have e := fun f h1 h2 h3 => decV_eq (big := big) (ext := ext) hz hl (f := f) h1 h2 h3
 have e7 : ((decV big ext zs 7 : Nat) : Int) = xoZ big ext zs := by
  cases ext
  ·rfl
  ·rw [e 7 (by omega) (by omega) (by simp)]; cases big <;> rfl
 have e7f : ext = false → decV big ext zs 7 = 0 := fun h => by rw [h]; rfl
 have e1 := e 1 (by omega) (by omega) (by omega)
 have e2 := e 2 (by omega) (by omega) (by omega)
 have e4 := e 4 (by omega) (by omega) (by omega)
 have e9 := e 9 (by omega) (by omega) (by omega)
 refine ⟨?_, ?_, ?_, ?_, ⟨?_, ?_, ?_⟩, ⟨?_, ?_⟩, ?_⟩
 ·have s1 : valZ zs (atB big 1) (szE big ext 1) = nthz zs 0 := by cases big <;> cases ext <;> simp [szE, szB, atB, val1]
  have s2 : valZ zs (atB big 2) (szE big ext 2) = nthz zs 1 := by cases big <;> cases ext <;> simp [szE, szB, atB, val1]
  have s4 : valZ zs (atB big 4) (szE big ext 4) = nthz zs 3 := by cases big <;> cases ext <;> simp [szE, szB, atB, val1]
  have s9 : valZ zs (atB big 9) (szE big ext 9) = nthz zs (atB big 9) := by cases big <;> cases ext <;> simp [szE, szB, atB, val1]
  rw [e1, e2, e4, e7, e9, s1, s2, s4, s9]; exact hc
 ·have h1 := H 3 (by omega) (by omega); have h2 := hle 3 (by omega) (by omega)
  have h3 : szE big ext 3 = 1 := by cases big <;> cases ext <;> rfl
  rw [h3] at h1; omega
 ·have h1 := H 4 (by omega) (by omega); have h2 := hle 4 (by omega) (by omega)
  have h3 : szE big ext 4 = 1 := by cases big <;> cases ext <;> rfl
  rw [h3] at h1; omega
 ·have h1 := H 5 (by omega) (by omega); have h2 := hle 5 (by omega) (by omega)
  have h3 : szE big ext 5 = 4 := by cases big <;> cases ext <;> rfl
  rw [h3] at h1; omega
 ·have h1 := H 6 (by omega) (by omega); have h2 := hle 6 (by omega) (by omega)
  have h3 : szE big ext 6 = 8 ∨ szE big ext 6 = 6 ∨ szE big ext 6 = 4 := by cases big <;> cases ext <;> simp [szE, szB]
  rcases h3 with h3 | h3 | h3 <;> rw [h3] at h1 <;> omega
 ·intro h7
  have h1 := H 6 (by omega) (by omega); have h2 := hle 6 (by omega) (by omega)
  cases ext
  ·exact absurd rfl h7
  ·have h3 : szE big true 6 = 4 := rfl
   rw [h3] at h1; omega
 ·intro hb
  have h1 := H 6 (by omega) (by omega); have h2 := hle 6 (by omega) (by omega)
  have h3 : szE big ext 6 = 6 ∨ szE big ext 6 = 4 := by subst hb; cases ext <;> simp [szE, szB]
  rcases h3 with h3 | h3 <;> rw [h3] at h1 <;> omega
 ·have h1 := H 7 (by omega) (by omega); have h2 := hle 7 (by omega) (by omega)
  have h3 : szE big ext 7 = 4 ∨ szE big ext 7 = 2 := by cases big <;> cases ext <;> simp [szE, szB]
  rcases h3 with h3 | h3 <;> rw [h3] at h1 <;> omega
 ·intro hb
  have h1 := H 7 (by omega) (by omega); have h2 := hle 7 (by omega) (by omega)
  have h3 : szE big ext 7 = 2 := by subst hb; cases ext <;> simp [szE, szB]
  rw [h3] at h1; omega
 ·have h1 := H 8 (by omega) (by omega); have h2 := hle 8 (by omega) (by omega)
  have h3 : szE big ext 8 = 1 := by cases big <;> cases ext <;> rfl
  rw [h3] at h1; omega
/-- What a node says, of either kind. -/
theorem refOut_any (big : Bool) (v : Nat → Nat) (z1 z2 msg : List Int) (sa pe kv mv : Value) (la : Bool) (cnt : Int) (np : Nat) (w : World) (hN : rNode big w np v sa pe kv la mv cnt) (hP : ParOk big v) (h1 : Hold w sa z1) (h2 : Hold w pe z2) (hl1 : z1.length ≤ sB big) (hl2 : z2.length ≤ sB big) (hM : Hold w mv msg) (hml : (msg.length : Int) ≤ 281474976710656) :
  Calls Tryz.prog 68 #[.pointer (some ⟨np, 0, none⟩)] w fun e w' => ∃ u, e = .returned u ∧ w'.ownsRow w.heap.size 5 1 u (mB big) ((outZ big (h0Z big (blkP big v z1 z2)) msg la).map encB) ∧ Below w.heap.size w w' := by
 cases big
 ·exact refOut_false v z1 z2 msg sa pe kv mv la cnt np w hN hP h1 h2 hl1 hl2 hM hml
 ·exact refOut_true v z1 z2 msg sa pe kv mv la cnt np w hN hP h1 h2 hl1 hl2 hM hml
/-- What a hash answers. -/
def HashIs (big : Bool) (v : Nat → Nat) (z1 z2 kz : List Int) (la : Bool) (o : Int) (ds : List Int) (w : World) (e : Ending) (w' : World) : Prop :=
 (∃ u n, e = .returned (.tuple #[u, .int .i64 n]) ∧ (((o < 1 ∨ (mB big : Nat) < o) ∧ n = 1 ∧ u = .slice none 0 0) ∨ (¬ (o < 1 ∨ (mB big : Nat) < o) ∧ n = 0 ∧ Fresh w.heap.size w' u ((outZ big (h0Z big (blkP big v z1 z2)) (keyZ (bB big) kz ++ ds) la).take o.toNat)))) ∧ Below w.heap.size w w'
/-- The first m of fresh bytes, with the room behind them. -/
theorem fresh_head {base g c m : Nat} {W : World} {zs : List Int} (h : W.ownsRow base 5 1 (.slice (some ⟨g, 0, none⟩) zs.length c) zs.length (zs.map encB)) (hm : m ≤ zs.length) : Fresh base W (.slice (some ⟨g, 0, none⟩) m c) (zs.take m) := by
 obtain ⟨cur, h2, h3, h4, h5, h6, h7⟩ := own_row h
 have e : (zs.take m).length = m := by simp [List.length_take, Nat.min_eq_left hm]
 refine .inr ⟨g, c, cur, by rw [e], h5, h2, by omega, by omega, by omega, ?_⟩
 rw [e, List.map_take, ← h4, List.take_take, Nat.min_eq_left hm]
theorem bB_le (big : Bool) : mB big ≤ bB big ∧ bB big ≤ 128 := by cases big <;> decide
set_option maxRecDepth 100000 in
set_option maxHeartbeats 4000000 in
theorem refHash_any (big : Bool) (v : Nat → Nat) (z1 z2 kz ds : List Int) (la : Bool) (o : Int) (sa pe kv dv : Value) (w : World) (hP : ParOk big v) (h1 : Hold w sa z1) (h2 : Hold w pe z2) (hl1 : z1.length ≤ sB big) (hl2 : z2.length ≤ sB big) (hK : Hold w kv kz) (hkl : kz.length ≤ mB big) (hk : kz.length = 0 ∨ kz.length = v 2) (hD : Hold w dv ds) (hdl : (ds.length : Int) ≤ 140737488355200) :
  Calls Tryz.prog 45 #[.int .i64 (kB big), parN v sa pe, kv, .bool la, .int .i64 o, dv] w fun e w' => HashIs big v z1 z2 kz la o ds w e w' := by
 obtain ⟨b0, hb0⟩ : ∃ b0, w.heap.size = b0 := ⟨_, rfl⟩
 obtain ⟨a1, c1, rfl, hc11, hc12⟩ := h1.slice
 obtain ⟨a2, c2, rfl, hc21, hc22⟩ := h2.slice
 have hbA : Below b0 w (w.alloc (.cells #[.int .i64 (v 1 : Nat), .int .i64 (v 2 : Nat), .int .i64 (v 3 : Nat), .int .i64 (v 4 : Nat), .int .u32 (v 5 : Nat), .int .u64 (v 6 : Nat), .int .u32 (v 7 : Nat), .int .i64 (v 8 : Nat), .int .i64 (v 9 : Nat), .slice a1 z1.length c1, .slice a2 z2.length c2] 76)) := by rw [← hb0]; exact (Below.refl _ _).alloc (Nat.le_refl _) _
 have hrA := World.alloc_heap_new w (.cells #[.int .i64 (v 1 : Nat), .int .i64 (v 2 : Nat), .int .i64 (v 3 : Nat), .int .i64 (v 4 : Nat), .int .u32 (v 5 : Nat), .int .u64 (v 6 : Nat), .int .u32 (v 7 : Nat), .int .i64 (v 8 : Nat), .int .i64 (v 9 : Nat), .slice a1 z1.length c1, .slice a2 z2.length c2] 76)
 rw [hb0] at hrA
 have hb0A := (Array.getElem?_eq_some_iff.1 hrA).1
 have HP_ := Lib.hid hP
 have H1_ := Lib.hid h1
 have H2_ := Lib.hid h2
 have HK_ := Lib.hid hK
 have HD_ := Lib.hid hD
 have HKL_ := Lib.hid hkl
 have HKK_ := Lib.hid hk
 have HDL_ := Lib.hid hdl
 have HL1_ := Lib.hid hl1
 have HL2_ := Lib.hid hl2
 clear hP h1 h2 hl1 hl2 hK hkl hk hD hdl hc11 hc12 hc21 hc22
 unfold parN parV
 go_enter Tryz.func45, Tryz.ntmps45
 go_upto_region 1 with (fail)
 generalize w.alloc (.cells #[.int .i64 (v 1 : Nat), .int .i64 (v 2 : Nat), .int .i64 (v 3 : Nat), .int .i64 (v 4 : Nat), .int .u32 (v 5 : Nat), .int .u64 (v 6 : Nat), .int .u32 (v 7 : Nat), .int .i64 (v 8 : Nat), .int .i64 (v 9 : Nat), .slice a1 z1.length c1, .slice a2 z2.length c2] 76) = wA at *
 go_wp2_with ((with_reducible show wpList _ _ _ (Oper.mk _ (Op.load 76 _) _ _ _ _ :: _) _ _); refine wpList_load_row rfl 76 _ rfl b0 rfl _ _ _ _ hrA Tryz.underlying76 rfl (by kernel_rfl) ?_)
 refine (refNew_ok big v a1 a2 z1.length z2.length c1 c2 kz kv wA HP_.out HL1_.out HL2_.out (HK_.out.below (hb0 ▸ hbA)) HKL_.out HKK_.out).mono ?_; rintro e w1 ⟨np, mv, rfl, hnp, hN, hO, hb1⟩
 have hs1 := hb1.size
 have hbB : Below b0 w w1 := hbA.trans (hb1.mono (by omega))
 have hnps : np < w1.heap.size := (Array.getElem?_eq_some_iff.1 hN).1
 have hmv : ∀ g, mv.ownBlock = some g → b0 < g := fun g hg => by have := own_base hO hg; omega
 have hO1 := own_base0 hO
 have HN := Lib.hid hN
 have HO1 := Lib.hid hO1
 have HBB := Lib.hid hbB
 have HMV := Lib.hid hmv
 have hnp0 : b0 < np := by omega
 clear hN hO hb1 hbB hmv hO1 hrA hbA hb0A hs1 hnp wA
 by_cases hbad : o < 1 ∨ (mB big : Nat) < o
 case pos =>
  have HBAD := Lib.hid hbad
  obtain ⟨q0, hq0⟩ : ∃ q, decide (o < 1) = q := ⟨_, rfl⟩
  cases q0
  case true =>
   clear hbad
   go_wp2_with fail
   go_ret2
   exact ⟨⟨_, 1, rfl, .inl ⟨HBAD.out, rfl, rfl⟩⟩, by rw [hb0]; exact HBB.out⟩
  have hq1 : decide ((mB big : Nat) < o) = true := by have := of_decide_eq_false hq0; exact decide_eq_true (by omega)
  clear hbad
  go_wp2_with fail
  refine (refFull_ok big _).mono ?_; rintro r w4 ⟨rfl, hw⟩
  have HW := hw; subst HW; clear hw
  go_wp2_with fail
  go_ret2
  exact ⟨⟨_, 1, rfl, .inl ⟨HBAD.out, rfl, rfl⟩⟩, by rw [hb0]; exact HBB.out⟩
 have HBAD := Lib.hid hbad
 have hq0 : decide (o < 1) = false := decide_eq_false (by omega)
 have hq1 : decide ((mB big : Int) < o) = false := decide_eq_false (by omega)
 clear hbad
 have c13 : w1.cell? ⟨np, 13, none⟩ = some (.bool false) := cell_of_heap HN.out 13
 have f13 := frozen_of_row w1 np 13 _ _ HN.out
 go_wp2_with fail
 refine (refFull_ok big _).mono ?_; rintro r w4 ⟨rfl, hw⟩
 obtain rfl := hw
 go_upto_region 7 with (fail)
 have hbut : But np w4 (w4.setCell ⟨np, 13, none⟩ (.bool la)) := (But.refl np w4).set 13 _
 have HN4 := Lib.hid (show rNode big (w4.setCell ⟨np, 13, none⟩ (.bool la)) np v (.slice a1 z1.length c1) (.slice a2 z2.length c2) kv la mv 0 from rNode_last HN.out)
 have HO4 := Lib.hid (own_but HO1.out hbut HN.out (by decide))
 have HB4 := Lib.hid (show Below b0 w (w4.setCell ⟨np, 13, none⟩ (.bool la)) from HBB.out.trans (hbut.below (by omega) (by omega)))
 obtain ⟨m, hm⟩ : ∃ m : Nat, o = (m : Int) := ⟨o.toNat, by have := HBAD.out; omega⟩
 subst hm
 have hm2 : m ≤ mB big := by have := HBAD.out; omega
 have HM2 := Lib.hid hm2
 clear HN HO1 HBB hbut c13 f13 hq0 hq1 hm2
 generalize (w4.setCell ⟨np, 13, none⟩ (.bool la)) = W4 at *
 go_wp2_with fail
 have hkz := keyZ_length (n := bB big) (key := kz) (by have := bB_le big; have := HKL_.out; omega)
 have hlen : ((keyZ (bB big) kz ++ ds).length : Int) ≤ 281474976710656 := by have := bB_le big; have := HDL_.out; rw [List.length_append]; omega
 have hmz : ∀ z ∈ keyZ (bB big) kz ++ ds, 0 ≤ z ∧ z ≤ 255 := fun z hz => by
  rcases List.mem_append.1 hz with hz | hz
  ·exact keyZ_bounds HK_.out.1 z hz
  ·exact HD_.out.1 z hz
 have HLEN := Lib.hid hlen
 have HMZ := Lib.hid hmz
 refine (refWrite_any big v (keyZ (bB big) kz) ds (.slice a1 z1.length c1) (.slice a2 z2.length c2) kv mv dv la 0 np W4 HN4.out HO4.out (HD_.out.below (hb0 ▸ HB4.out)) (fun hne b hb => ⟨fun e => by have := hold_own HD_.out hne hb; omega, fun e => by have := hold_own HD_.out hne hb; have := HMV.out b e; omega⟩) (by have := bB_le big; have := HDL_.out; omega)).mono ?_; rintro e w5 ⟨rfl, ⟨mv5, cnt5, hn5, ho5⟩, hs5⟩
 clear hkz hlen hmz
 have HB5 := Lib.hid (show Below b0 w w5 from HB4.out.trans (hs5.below (by have := HB4.out.size; omega) (fun k hk => ⟨by omega, fun e => by have := HMV.out k e; omega⟩)))
 have HN5 := Lib.hid hn5
 have HO5 := Lib.hid ho5
 clear hn5 ho5 hs5 HN4 HO4 HB4
 go_wp2_with fail
 refine (refOut_any big v z1 z2 (keyZ (bB big) kz ++ ds) (.slice a1 z1.length c1) (.slice a2 z2.length c2) kv mv5 la cnt5 np w5 HN5.out HP_.out (H1_.out.below (hb0 ▸ HB5.out)) (H2_.out.below (hb0 ▸ HB5.out)) HL1_.out HL2_.out (hold_of_own HO5.out HMZ.out) HLEN.out).mono ?_; rintro e w6 ⟨u, rfl, ho6, hb6⟩
 have HB6 := Lib.hid (show Below b0 w w6 from HB5.out.trans (hb6.mono (by have := HB5.out.size; omega)))
 have hw5 : w.heap.size ≤ w5.heap.size := HB5.out.size
 obtain ⟨u1, u2, u3, rfl⟩ := own_slice ho6
 obtain rfl : u2 = mB big := own_len ho6
 obtain ⟨gg, rfl⟩ := own_some (own_base0 ho6) (by cases big <;> decide)
 obtain ⟨cu, -, -, -, -, hk1, hk2⟩ := own_row ho6
 have hol : (outZ big (h0Z big (blkP big v z1 z2)) (keyZ (bB big) kz ++ ds) la).length = mB big := by have := ho6.1; simpa using this
 have hk3 : (u3 : Int) ≤ 9223372036854775807 := by unfold maxLen at hk2; omega
 have hm2 := HM2.out
 have hk4 : (m : Int) ≤ u3 := by omega
 have hk5 : (mB big : Int) ≤ (u3 : Int) := by omega
 have hft := (fresh_head (m := m) (zs := outZ big (h0Z big (blkP big v z1 z2)) (keyZ (bB big) kz ++ ds) la) (c := u3) (by rw [hol]; exact ho6) (by rw [hol]; exact hm2)).le hw5
 have HFT := Lib.hid hft
 clear hft ho6 hb6 hol hw5 hm2
 go_wp2_with fail
 go_ret2
 exact ⟨⟨_, 0, rfl, .inr ⟨HBAD.out, rfl, HFT.out⟩⟩, by rw [hb0]; exact HB6.out⟩
end Go.Proofs.YtjogmckaakkomaaGreat
/- A call, by the reference. No condition. -/
namespace Go.Proofs.YtjogmckaakkomaaGreat
open Go.ChangeShapes Go.WideShapes Go.ChangeAt Go.RowKit Go.Joins Go.Shelf Go.Maps
attribute [local go_sem] Oper.semAt_some

theorem decV_two {big ext : Bool} {zs : List Int} (hz : ∀ z ∈ zs, 0 ≤ z ∧ z ≤ 255) (hl : zs.length = mB big) : ((decV big ext zs 2 : Nat) : Int) = nthz zs 1 := by
 rw [decV_eq (big := big) (ext := ext) hz hl (f := 2) (by omega) (by omega) (by omega)]
 cases big <;> cases ext <;> simp [szE, szB, atB, val1]
theorem key_two {big ext : Bool} {bs kz : List Int} (hz : ∀ z ∈ bs, 0 ≤ z ∧ z ≤ 255) (hl : bs.length = mB big) (hk : keyBad bs kz = false) : kz.length = 0 ∨ kz.length = decV big ext bs 2 := by
 have h1 := decV_two (ext := ext) hz hl
 unfold keyBad at hk
 have h2 := of_decide_eq_false hk
 omega
theorem callN_hash {big ext : Bool} {bs kz ds : List Int} {la : Bool} {o : Int} {w w0 : World} {e : Ending} {w' : World} (hz : ∀ z ∈ bs, 0 ≤ z ∧ z ≤ 255) (hok : okD big ext bs) (hkb : keyBad bs kz = false) (hb : Below w0.heap.size w0 w) (h : HashIs big (decV big ext bs) (saltZ big bs) (persZ big bs) kz la o ds w e w') :
  ∃ u n, e = .returned (.tuple #[u, .int .i64 n]) ∧ CallIs big bs kz la o ds w0 (.returned (.tuple #[u, .int .i64 n])) w' := by
 obtain ⟨⟨u, n, rfl, h⟩, hb1⟩ := h
 rw [blkP_dec hz hok] at h
 have hB : okB big bs := by cases ext <;> first | exact .inl hok | exact .inr hok
 refine ⟨u, n, rfl, ⟨u, n, rfl, ?_⟩, hb.trans (hb1.mono hb.size)⟩
 rcases h with ⟨h1, rfl, rfl⟩ | ⟨h1, rfl, h2⟩
 ·exact ⟨.inr (.inr (.inl ⟨hB, hkb, h1, rfl⟩)), fun _ => rfl, fun h => by simp at h⟩
 ·exact ⟨.inr (.inr (.inr ⟨hB, hkb, h1, rfl⟩)), fun h => absurd rfl h, fun _ => h2.le hb.size⟩
set_option maxRecDepth 100000 in
set_option maxHeartbeats 4000000 in
theorem refCall_any (big : Bool) (bs kz ds : List Int) (la : Bool) (o : Int) (bv kv dv : Value) (w : World) (hB : Hold w bv bs) (hK : Hold w kv kz) (hD : Hold w dv ds) (hdl : (ds.length : Int) ≤ 140737488355200) :
  Calls Tryz.prog 28 #[.agg (callC (kB big) bv kv la o dv)] w fun e w' => CallIs big bs kz la o ds w e w' := by
 obtain ⟨b0, hb0⟩ : ∃ b0, w.heap.size = b0 := ⟨_, rfl⟩
 obtain ⟨ka, kc, rfl, hkc1, hkc2⟩ := hK.slice
 have hbA : Below b0 w (w.alloc (.cells #[.int .i64 (kB big), bv, .slice ka kz.length kc, .bool la, .int .i64 o, dv] 25)) := by rw [← hb0]; exact (Below.refl _ _).alloc (Nat.le_refl _) _
 have hrA := World.alloc_heap_new w (.cells #[.int .i64 (kB big), bv, .slice ka kz.length kc, .bool la, .int .i64 o, dv] 25)
 rw [hb0] at hrA
 have hb0A := (Array.getElem?_eq_some_iff.1 hrA).1
 have hq : ((kB big != 1) && (kB big != 2)) = false := by cases big <;> rfl
 obtain ⟨q0, hq0⟩ : ∃ q, (kB big != 1) = q := ⟨_, rfl⟩
 obtain ⟨q1, hq1⟩ : ∃ q, (kB big != 2) = q := ⟨_, rfl⟩
 rw [hq0, hq1] at hq
 obtain ⟨kk, hkk⟩ : ∃ kk, kB big = kk := ⟨_, rfl⟩
 have HKK := Lib.hid hkk
 have HB_ := Lib.hid hB
 have HK_ := Lib.hid hK
 have HD_ := Lib.hid hD
 have HDL_ := Lib.hid hdl
 clear hB hK hD hdl hkc1 hkc2
 show Calls _ _ #[.agg #[.int .i64 (kB big), bv, .slice ka kz.length kc, .bool la, .int .i64 o, dv]] _ _
 rw [hkk] at hbA hrA hb0A hq0 hq1 ⊢
 clear hkk
 go_enter Tryz.func28, Tryz.ntmps28
 go_upto_region 1 with (fail)
 generalize w.alloc (.cells #[.int .i64 kk, bv, .slice ka kz.length kc, .bool la, .int .i64 o, dv] 25) = wA at *
 have c0 : wA.cell? ⟨b0, 0, none⟩ = some (.int .i64 kk) := cell_of_heap hrA 0
 have c1 : wA.cell? ⟨b0, 1, none⟩ = some bv := cell_of_heap hrA 1
 cases q0 <;> cases q1 <;> first | (exfalso; cases hq; done) | skip
 all_goals
  clear hq
  go_wp2_with fail
  refine (show Calls Tryz.prog 44 #[.int .i64 kk, bv] wA _ from HKK.out ▸ refDecoded_any big bs bv wA (HB_.out.below (hb0 ▸ hbA))).mono ?_; rintro e w1 ⟨⟨cs, n, rfl, hn, ext, hok, hdc⟩, hb1⟩
  have hs1 := hb1.size
  have hr1 := rowStay hrA hb1
  have hbB : Below b0 w w1 := hbA.trans (hb1.mono (by omega))
  have HN := Lib.hid hn
  have HOK := Lib.hid hok
  have HDC := Lib.hid hdc
  have HBB := Lib.hid hbB
  have HR1 := Lib.hid hr1
  clear hn hok hdc hbB hr1 hb1 hbA c0 c1 hrA
  by_cases hn0 : n = 0
  case neg =>
   have hqn : (n != 0) = true := by rw [bne_iff_ne]; exact hn0
   have HN0 := Lib.hid hn0
   clear hn0
   go_wp2_with ((with_reducible show wpList _ _ _ (Oper.mk none (Op.store 76 (Operand.tmp 5) _) _ _ _ _ :: _) _ _); refine wpList_store_row rfl 76 _ _ rfl w1.heap.size cs rfl rfl 76 _ (World.alloc_heap_new _ _) (by rw [HDC.out.1]; kernel_rfl) (by rw [HDC.out.1]; rfl) HDC.out.2.1 ?_)
   go_ret2
   exact ⟨⟨_, 4, rfl, .inl ⟨fun h => HN0.out (HN.out.2 h), rfl⟩, fun _ => rfl, fun h => by simp at h⟩, by rw [hb0]; exact below_setRow (HBB.out.alloc (by omega) _) (by omega) _⟩
  subst hn0
  go_upto_region 7 with ((with_reducible show wpList _ _ _ (Oper.mk none (Op.store 76 (Operand.tmp 5) _) _ _ _ _ :: _) _ _); refine wpList_store_row rfl 76 _ _ rfl w1.heap.size cs rfl rfl 76 _ (World.alloc_heap_new _ _) (by rw [HDC.out.1]; kernel_rfl) (by rw [HDC.out.1]; rfl) HDC.out.2.1 ?_)
  refine letterW ?_
  intro W hW
  obtain ⟨p5, hp5⟩ : ∃ p, w1.heap.size = p := ⟨_, rfl⟩
  have r5 : W.heap[p5]? = some (.cells cs 76 (0, 0)) := by rw [hW, ← hp5]; exact setRow_heap _ _ _ _ _ _ (World.alloc_heap_new _ _)
  have r0 : W.heap[b0]? = some (.cells #[.int .i64 kk, bv, .slice ka kz.length kc, .bool la, .int .i64 o, dv] 25 (0, 0)) := by rw [hW]; exact (setRow_other (w1.alloc _) _ _ _ (by omega)).trans ((Below.heap_alloc _ _ _ (by omega)).trans HR1.out)
  have hbC : Below b0 w W := by rw [hW]; exact below_setRow (HBB.out.alloc (by omega) _) (by omega) _
  have hcW : DecIs big ext bs b0 W cs 0 := HDC.out.mono (by omega) (fun g hg hg2 => by rw [hW]; exact (setRow_other (w1.alloc _) _ _ _ (by omega)).trans (Below.heap_alloc _ _ _ hg2))
  rw [hp5]
  have hb05 : b0 < p5 := by omega
  have hWs : p5 < W.heap.size := (Array.getElem?_eq_some_iff.1 r5).1
  clear hW hp5 HR1 HBB HDC hs1 hb0A
  have R5 := Lib.hid r5
  have R0 := Lib.hid r0
  have HBC := Lib.hid hbC
  have HCW := Lib.hid hcW
  clear r5 r0 hbC hcW
  obtain ⟨-, -, hcs⟩ := HCW.out
  obtain ⟨sa, pe, hcs, hsa, hpe⟩ := hcs rfl
  have hok := HOK.out (by trivial)
  clear HCW
  obtain ⟨v, hv⟩ : ∃ v, decV big ext bs = v := ⟨_, rfl⟩
  rw [hv] at hcs
  unfold parN parV at hcs
  injection hcs with hcs
  subst hcs
  have hz := HB_.out.1
  have HSA := Lib.hid (hold_of_own hsa (saltZ_bounds hz))
  have HPE := Lib.hid (hold_of_own hpe (persZ_bounds hz))
  have HO := Lib.hid hok
  have HV := Lib.hid hv
  clear hsa hpe hv
  have c5 : W.cell? ⟨p5, 1, none⟩ = some (.int .i64 (v 2 : Nat)) := cell_of_heap R5.out 1
  have c2 : W.cell? ⟨b0, 2, none⟩ = some (.slice ka kz.length kc) := cell_of_heap R0.out 2
  have hb0s : b0 < W.heap.size := (Array.getElem?_eq_some_iff.1 R0.out).1
  have hky : ((v 2 : Nat) : Int) = nthz bs 1 := by rw [← HV.out]; exact decV_two hz hok.1
  obtain ⟨q2, hq2⟩ : ∃ q, ((kz.length : Int) != 0) = q := ⟨_, rfl⟩
  obtain ⟨q3, hq3⟩ : ∃ q, ((kz.length : Int) != (v 2 : Nat)) = q := ⟨_, rfl⟩
  have hkb : keyBad bs kz = (q2 && q3) := by rw [← hq2, ← hq3, hky]; exact keyBad_eq bs kz
  have HKB := Lib.hid hkb
  clear hz hok hky hkb
  by_cases hbad : keyBad bs kz = true
  case pos =>
   have HKB2 := Lib.hid hbad
   obtain ⟨rfl, rfl⟩ : q2 = true ∧ q3 = true := by rw [HKB.out] at hbad; simpa using hbad
   clear hbad
   go_wp2_with fail
   go_ret2
   exact ⟨⟨_, 8, rfl, .inr (.inl ⟨by cases ext <;> first | exact .inl HO.out | exact .inr HO.out, HKB2.out, rfl⟩), fun _ => rfl, fun h => by simp at h⟩, by rw [hb0]; exact HBC.out⟩
  have hkf : keyBad bs kz = false := by simpa using hbad
  have HKF := Lib.hid hkf
  have hqq : (q2 && q3) = false := by rw [← HKB.out]; exact hkf
  clear hbad hkf HKB
  have c3 : W.cell? ⟨b0, 3, none⟩ = some (.bool la) := cell_of_heap R0.out 3
  have c4 : W.cell? ⟨b0, 4, none⟩ = some (.int .i64 o) := cell_of_heap R0.out 4
  have c6 : W.cell? ⟨b0, 5, none⟩ = some dv := cell_of_heap R0.out 5
  cases q2 <;> cases q3 <;> first | (exfalso; cases hqq; done) | skip
  all_goals
   clear hqq
   go_wp2_with ((with_reducible show wpList _ _ _ (Oper.mk _ (Op.load 76 _) _ _ _ _ :: _) _ _); refine wpList_load_row rfl 76 _ rfl p5 rfl _ _ _ _ R5.out Tryz.underlying76 rfl (by kernel_rfl) ?_)
   have HZ := HB_.out.1
   refine (show Calls Tryz.prog 45 #[.int .i64 kk, parN v sa pe, .slice ka kz.length kc, .bool la, .int .i64 o, dv] W _ from HKK.out ▸ refHash_any big v (saltZ big bs) (persZ big bs) kz ds la o sa pe (.slice ka kz.length kc) dv W (HV.out ▸ parOk_dec HZ HO.out) HSA.out HPE.out (saltZ_le big bs) (persZ_le big bs) (HK_.out.below (hb0 ▸ HBC.out)) (key_len (by cases ext <;> first | exact .inl HO.out | exact .inr HO.out) HKF.out) (HV.out ▸ key_two HZ HO.out.1 HKF.out) (HD_.out.below (hb0 ▸ HBC.out)) HDL_.out).mono ?_; intro e w9 hh
   obtain ⟨u, n9, rfl, hc⟩ := callN_hash (w0 := w) HZ HO.out HKF.out (hb0 ▸ HBC.out) (HV.out ▸ hh)
   have HC := Lib.hid hc
   clear hh hc HZ
   go_wp2_with fail
   go_ret2
   exact HC.out
end Go.Proofs.YtjogmckaakkomaaGreat
