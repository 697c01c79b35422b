/- The digest of a message, by both sides; a tree with bytes of its own. No condition. -/
import Derived.Test.YtchepcilkcdemaaB40
import Derived.Test.YtchepcilkcdemaaB41
set_option linter.all false
set_option maxRecDepth 100000
set_option maxHeartbeats 8000000
namespace Go.Proofs.Ytchepcilkcdemaa
open Go.ChangeShapes Go.WideShapes Go.ChangeAt Go.RowKit Go.Joins Go.Shelf Go.Maps
open Go.Lib (hid)
attribute [local go_sem] Oper.semAt_some
/-- The digest of a message (none of a tree that may not be). -/
def TreeV.digZ (t : TreeV) (kz z1 z2 zs : List Int) : List Int := if t.validE = 0 then nthL (t.lvlZ kz z1 z2 (t.leafZ kz z1 z2 zs) ((t.rowsOf zs.length).length - 1)) 0 else []
theorem err_small {t : TreeV} {total : Nat} (h : t.validE = 0) (hn : total ≤ 4194304) : t.err total = 0 := by
 unfold TreeV.err
 rw [if_neg (by simp [h]), if_neg ?_]
 rintro ⟨-, h2⟩
 have hl : 1 ≤ t.ln ∨ t.ln = 0 := by omega
 rcases hl with hl | hl
 ·have := cdiv_le (n := total) hl; omega
 ·rw [hl] at h2
  unfold cdiv at h2
  split at h2 <;> simp at h2
theorem leafZ_rows {t : TreeV} (h : t.validE = 0) (hl : 0 ≤ t.l ∧ t.l ≤ 4294967295) (kz z1 z2 zs : List Int) : (t.leafZ kz z1 z2 zs).length = lvs zs.length t.ln := by
 have hln : 1 ≤ t.ln := by
  have := (TreeV.valid_facts h).2.2.2.2.2.2.2.2.1
  unfold TreeV.ln; omega
 rw [← cutZ_length zs hln]
 exact TreeV.rowZ_length ..
/-- What both Hashes answer. -/
def DigIs (t : TreeV) (kz z1 z2 zs : List Int) (w : World) (e : Ending) (w' : World) : Prop :=
 ∃ u, e = .returned (.tuple #[u, .int .i64 t.validE]) ∧ OwnB w.heap.size w' u (t.digZ kz z1 z2 zs) ∧ Below w.heap.size w w'
theorem hash_any (t : TreeV) (kz z1 z2 zs : List Int) (v : Value) (w : World) (hl : 0 ≤ t.l ∧ t.l ≤ 4294967295) (hk : Hold w (.slice t.ka t.kl t.kc) kz) (hs : Hold w (.slice t.sa t.sl t.sc) z1) (hp : Hold w (.slice t.pa t.pl t.pc) z2) (hv : Hold w v zs) (hn : zs.length ≤ 4194304) :
  Calls Try.prog 11 #[t.val, v] w fun e w' => DigIs t kz z1 z2 zs w e w' := by
 by_cases h : t.validE = 0
 ·refine (hash_ok t kz z1 z2 zs v w ⟨h, hl, hk, hs, hp⟩ hv hn).mono ?_
  rintro e w' ⟨u, rfl, ⟨R, hR, ho⟩, hb⟩
  have hL := TreeV.leafZ_facts h hl kz z1 z2 zs
  have hT := top_rows (err_small h hn) kz z1 z2 (leafZ_rows h hl kz z1 z2 zs) hL.2.2
  rw [TreeV.topAt_one hR hT] at ho
  exact ⟨u, by rw [h], by unfold TreeV.digZ; rw [if_pos h]; exact ho, hb⟩
 ·refine (hash_err t v w h).mono ?_
  rintro e w' ⟨rfl, hb⟩
  exact ⟨_, rfl, by unfold TreeV.digZ; rw [if_neg h]; exact ⟨fun _ h => by simp at h, .inl ⟨rfl, rfl⟩⟩, hb⟩
/-- The same tree, with its bytes elsewhere. -/
def TreeV.sw (t : TreeV) (a1 : Option Addr) (c1 : Nat) (a2 : Option Addr) (c2 : Nat) (a3 : Option Addr) (c3 : Nat) : TreeV := ⟨t.k, t.d, t.f, t.p, t.l, t.i, a1, t.kl, c1, a2, t.sl, c2, a3, t.pl, c3⟩
theorem TreeV.lvlZ_sw (t : TreeV) (a1 : Option Addr) (c1 : Nat) (a2 : Option Addr) (c2 : Nat) (a3 : Option Addr) (c3 : Nat) (kz z1 z2 : List Int) (L0 : List (List Int)) : ∀ r, (t.sw a1 c1 a2 c2 a3 c3).lvlZ kz z1 z2 L0 r = t.lvlZ kz z1 z2 L0 r
 | 0 => rfl
 | r + 1 => by
  show TreeV.rowZ _ _ _ _ _ (TreeV.rootZ _ _ (TreeV.lvlZ _ _ _ _ _ r).length) (TreeV.upZ _ _ (TreeV.lvlZ _ _ _ _ _ r)) (TreeV.upZ _ _ (TreeV.lvlZ _ _ _ _ _ r)).length = _
  rw [TreeV.lvlZ_sw t a1 c1 a2 c2 a3 c3 kz z1 z2 L0 r]
  rfl
theorem TreeV.digZ_sw (t : TreeV) (a1 : Option Addr) (c1 : Nat) (a2 : Option Addr) (c2 : Nat) (a3 : Option Addr) (c3 : Nat) (kz z1 z2 zs : List Int) : (t.sw a1 c1 a2 c2 a3 c3).digZ kz z1 z2 zs = t.digZ kz z1 z2 zs := by
 unfold TreeV.digZ
 rw [TreeV.lvlZ_sw]
 rfl
/-- What 'own' answers. -/
def OwnTree (t : TreeV) (kz z1 z2 : List Int) (B : Nat) (w : World) (v : Value) : Prop :=
 ∃ a1 c1 a2 c2 a3 c3, v = (t.sw a1 c1 a2 c2 a3 c3).val ∧ OwnB B w (.slice a1 t.kl c1) kz ∧ OwnB B w (.slice a2 t.sl c2) z1 ∧ OwnB B w (.slice a3 t.pl c3) z2
theorem OwnTree.below {t : TreeV} {kz z1 z2 : List Int} {B : Nat} {w w' : World} {v : Value} (h : OwnTree t kz z1 z2 B w v) (hb : Below w.heap.size w w') : OwnTree t kz z1 z2 B w' v := by
 obtain ⟨a1, c1, a2, c2, a3, c3, e, h1, h2, h3⟩ := h
 have k := KB.of_below hb (Nat.zero_le _)
 exact ⟨a1, c1, a2, c2, a3, c3, e, h1.kb k, h2.kb k, h3.kb k⟩
theorem own10_ok (t : TreeV) (kz z1 z2 : List Int) (w : World) (h1 : Hold w (.slice t.ka t.kl t.kc) kz) (h2 : Hold w (.slice t.sa t.sl t.sc) z1) (h3 : Hold w (.slice t.pa t.pl t.pc) z2) (hk : t.kl ≤ 70368744177664) (hs : t.sl ≤ 70368744177664) (hp : t.pl ≤ 70368744177664) :
  Calls Try.prog 10 #[t.val] w fun e w' => ∃ u, e = .returned u ∧ OwnTree t kz z1 z2 w.heap.size w' u ∧ Below w.heap.size w w' := by
 obtain ⟨b0, hb0⟩ : ∃ b0, w.heap.size = b0 := ⟨_, rfl⟩
 have e1 := hold_len h1
 have e2 := hold_len h2
 have e3 := hold_len h3
 have HC1 := hid (fun (W : World) (hb : Below b0 w W) => copied_ok kz _ W (h1.below (hb0 ▸ hb)) (by omega))
 have HC2 := hid (fun (W : World) (hb : Below b0 w W) => copied_ok z1 _ W (h2.below (hb0 ▸ hb)) (by omega))
 have HC3 := hid (fun (W : World) (hb : Below b0 w W) => copied_ok z2 _ W (h3.below (hb0 ▸ hb)) (by omega))
 have E1 := hid e1
 have E2 := hid e2
 have E3 := hid e3
 clear h1 h2 h3 e1 e2 e3 hk hs hp
 unfold TreeV.val
 go_enter Try.func10, Try.ntmps10
 go_upto_region 1 with (fail)
 refine letterW ?_
 intro V hV
 have hrT : V.heap[b0]? = some (.cells #[.int .i64 t.k, .int .i64 t.d, .int .i64 t.f, .int .i64 t.p, .int .u32 t.l, .int .i64 t.i, .slice t.ka t.kl t.kc, .slice t.sa t.sl t.sc, .slice t.pa t.pl t.pc] 26 (0, 0)) := by rw [hV]; exact (Below.heap_alloc _ _ _ (by simp; omega)).trans (World.alloc_new_at _ _ hb0.symm)
 have hrC : V.heap[b0 + 1]? = some (.cells #[.int .i64 0, .int .i64 0, .int .i64 0, .int .i64 0, .int .u32 0, .int .i64 0, .slice none 0 0, .slice none 0 0, .slice none 0 0] 26 (0, 0)) := by rw [hV]; exact World.alloc_new_at _ _ (by simp; omega)
 have hbA : Below b0 w V := by rw [hV, ← hb0]; exact ((Below.refl _ _).alloc (Nat.le_refl _) _).alloc (by simp) _
 have hsA : V.heap.size = b0 + 2 := by rw [hV]; simp; omega
 clear hV
 have c1x : V.cell? ⟨b0, 6, none⟩ = some (.slice t.ka t.kl t.kc) := cell_of_heap hrT 6
 have hs1x : b0 < V.heap.size := (Array.getElem?_eq_some_iff.1 hrT).1
 go_wp2_with fail
 refine (HC1.out V hbA).mono ?_; rintro e w1 ⟨u1, rfl, ho1, hb1⟩
 obtain ⟨a1, c1, rfl, -, -⟩ := ho1.hold.slice
 rw [E1.out] at ho1 ⊢
 have hr1 := rowStay hrT hb1
 have g1 : w1.cell? ⟨b0, 6, none⟩ = some (.slice t.ka t.kl t.kc) := cell_of_heap hr1 6
 have f1 := frozen_of_row w1 b0 6 _ _ hr1
 have s1 : b0 < w1.heap.size := (Array.getElem?_eq_some_iff.1 hr1).1
 have HS1 := hid (show b0 + 1 < V.heap.size from (Array.getElem?_eq_some_iff.1 hrC).1)
 have q1 := hb1.size
 have HRC1 := hid (rowStay hrC hb1)
 have HR1 := hid hr1
 have HBX1 := hid (hbA.trans (hb1.mono (show b0 ≤ V.heap.size by omega)))
 have KX1 := hid (KB.of_below hb1 (Nat.zero_le _))
 have HOX1 := hid (ho1.le (show b0 ≤ V.heap.size by omega))
 clear hr1 hb1 ho1 c1x hs1x
 go_upto_region 2 with (fail)
 refine letterW ?_
 intro X1 hX1
 have K1 := hid (show KB 0 V X1 from KX1.out.trans (by rw [hX1]; exact KB.of_but ((But.refl b0 _).set 6 _) (Nat.zero_le _) (Nat.zero_le _) HR1.out (by decide)))
 have k1 := hid (show KB 0 w1 X1 by rw [hX1]; exact KB.of_but ((But.refl b0 _).set 6 _) (Nat.zero_le _) (Nat.zero_le _) HR1.out (by decide))
 have hrX1 : X1.heap[b0]? = some (.cells #[.int .i64 t.k, .int .i64 t.d, .int .i64 t.f, .int .i64 t.p, .int .u32 t.l, .int .i64 t.i, .slice a1 t.kl c1, .slice t.sa t.sl t.sc, .slice t.pa t.pl t.pc] 26 (0, 0)) := by rw [hX1]; exact heap_setCell_same _ b0 6 _ _ _ HR1.out
 have hrY1 : X1.heap[b0 + 1]? = some (.cells #[.int .i64 0, .int .i64 0, .int .i64 0, .int .i64 0, .int .u32 0, .int .i64 0, .slice none 0 0, .slice none 0 0, .slice none 0 0] 26 (0, 0)) := by rw [hX1]; exact (heap_setCell_other _ _ _ _ (show b0 + 1 ≠ b0 by omega)).trans HRC1.out
 have hbX1 : Below b0 w X1 := by rw [hX1]; exact HBX1.out.setCell (Nat.le_refl b0) _
 have HO1 := hid (HOX1.out.kb k1.out)
 clear hX1 g1 f1 s1 q1 HRC1 HR1 HBX1 KX1 HOX1 HS1
 have c2x : X1.cell? ⟨b0, 7, none⟩ = some (.slice t.sa t.sl t.sc) := cell_of_heap hrX1 7
 have hs2x : b0 < X1.heap.size := (Array.getElem?_eq_some_iff.1 hrX1).1
 go_wp2_with fail
 refine (HC2.out X1 hbX1).mono ?_; rintro e w2 ⟨u2, rfl, ho2, hb2⟩
 obtain ⟨a2, c2, rfl, -, -⟩ := ho2.hold.slice
 rw [E2.out] at ho2 ⊢
 have hr2 := rowStay hrX1 hb2
 have g2 : w2.cell? ⟨b0, 7, none⟩ = some (.slice t.sa t.sl t.sc) := cell_of_heap hr2 7
 have f2 := frozen_of_row w2 b0 7 _ _ hr2
 have s2 : b0 < w2.heap.size := (Array.getElem?_eq_some_iff.1 hr2).1
 have HS2 := hid (show b0 + 1 < X1.heap.size from (Array.getElem?_eq_some_iff.1 hrY1).1)
 have q2 := hb2.size
 have HRC2 := hid (rowStay hrY1 hb2)
 have HR2 := hid hr2
 have HBX2 := hid (hbX1.trans (hb2.mono (show b0 ≤ X1.heap.size by omega)))
 have KX2 := hid (KB.of_below hb2 (Nat.zero_le _))
 have HOX2 := hid (ho2.le (show b0 ≤ X1.heap.size by omega))
 clear hr2 hb2 ho2 c2x hs2x
 go_upto_region 3 with (fail)
 refine letterW ?_
 intro X2 hX2
 have K2 := hid (show KB 0 X1 X2 from KX2.out.trans (by rw [hX2]; exact KB.of_but ((But.refl b0 _).set 7 _) (Nat.zero_le _) (Nat.zero_le _) HR2.out (by decide)))
 have k2 := hid (show KB 0 w2 X2 by rw [hX2]; exact KB.of_but ((But.refl b0 _).set 7 _) (Nat.zero_le _) (Nat.zero_le _) HR2.out (by decide))
 have hrX2 : X2.heap[b0]? = some (.cells #[.int .i64 t.k, .int .i64 t.d, .int .i64 t.f, .int .i64 t.p, .int .u32 t.l, .int .i64 t.i, .slice a1 t.kl c1, .slice a2 t.sl c2, .slice t.pa t.pl t.pc] 26 (0, 0)) := by rw [hX2]; exact heap_setCell_same _ b0 7 _ _ _ HR2.out
 have hrY2 : X2.heap[b0 + 1]? = some (.cells #[.int .i64 0, .int .i64 0, .int .i64 0, .int .i64 0, .int .u32 0, .int .i64 0, .slice none 0 0, .slice none 0 0, .slice none 0 0] 26 (0, 0)) := by rw [hX2]; exact (heap_setCell_other _ _ _ _ (show b0 + 1 ≠ b0 by omega)).trans HRC2.out
 have hbX2 : Below b0 w X2 := by rw [hX2]; exact HBX2.out.setCell (Nat.le_refl b0) _
 have HO2 := hid (HOX2.out.kb k2.out)
 have HO1 := hid (HO1.out.kb K2.out)
 clear hX2 g2 f2 s2 q2 HRC2 HR2 HBX2 KX2 HOX2 HS2
 have c3x : X2.cell? ⟨b0, 8, none⟩ = some (.slice t.pa t.pl t.pc) := cell_of_heap hrX2 8
 have hs3x : b0 < X2.heap.size := (Array.getElem?_eq_some_iff.1 hrX2).1
 go_wp2_with fail
 refine (HC3.out X2 hbX2).mono ?_; rintro e w3 ⟨u3, rfl, ho3, hb3⟩
 obtain ⟨a3, c3, rfl, -, -⟩ := ho3.hold.slice
 rw [E3.out] at ho3 ⊢
 have hr3 := rowStay hrX2 hb3
 have g3 : w3.cell? ⟨b0, 8, none⟩ = some (.slice t.pa t.pl t.pc) := cell_of_heap hr3 8
 have f3 := frozen_of_row w3 b0 8 _ _ hr3
 have s3 : b0 < w3.heap.size := (Array.getElem?_eq_some_iff.1 hr3).1
 have HS3 := hid (show b0 + 1 < X2.heap.size from (Array.getElem?_eq_some_iff.1 hrY2).1)
 have q3 := hb3.size
 have HRC3 := hid (rowStay hrY2 hb3)
 have HR3 := hid hr3
 have HBX3 := hid (hbX2.trans (hb3.mono (show b0 ≤ X2.heap.size by omega)))
 have KX3 := hid (KB.of_below hb3 (Nat.zero_le _))
 have HOX3 := hid (ho3.le (show b0 ≤ X2.heap.size by omega))
 clear hr3 hb3 ho3 c3x hs3x
 go_upto_region 4 with (fail)
 refine letterW ?_
 intro X3 hX3
 have K3 := hid (show KB 0 X2 X3 from KX3.out.trans (by rw [hX3]; exact KB.of_but ((But.refl b0 _).set 8 _) (Nat.zero_le _) (Nat.zero_le _) HR3.out (by decide)))
 have k3 := hid (show KB 0 w3 X3 by rw [hX3]; exact KB.of_but ((But.refl b0 _).set 8 _) (Nat.zero_le _) (Nat.zero_le _) HR3.out (by decide))
 have hrX3 : X3.heap[b0]? = some (.cells #[.int .i64 t.k, .int .i64 t.d, .int .i64 t.f, .int .i64 t.p, .int .u32 t.l, .int .i64 t.i, .slice a1 t.kl c1, .slice a2 t.sl c2, .slice a3 t.pl c3] 26 (0, 0)) := by rw [hX3]; exact heap_setCell_same _ b0 8 _ _ _ HR3.out
 have hrY3 : X3.heap[b0 + 1]? = some (.cells #[.int .i64 0, .int .i64 0, .int .i64 0, .int .i64 0, .int .u32 0, .int .i64 0, .slice none 0 0, .slice none 0 0, .slice none 0 0] 26 (0, 0)) := by rw [hX3]; exact (heap_setCell_other _ _ _ _ (show b0 + 1 ≠ b0 by omega)).trans HRC3.out
 have hbX3 : Below b0 w X3 := by rw [hX3]; exact HBX3.out.setCell (Nat.le_refl b0) _
 have HO3 := hid (HOX3.out.kb k3.out)
 have HO1 := hid (HO1.out.kb K3.out)
 have HO2 := hid (HO2.out.kb K3.out)
 clear hX3 g3 f3 s3 q3 HRC3 HR3 HBX3 KX3 HOX3 HS3
 have HRC3 := hid hrY3
 have HB3 := hid hbX3
 have HR3 := hid hrX3
 go_wp2_with (first | ((with_reducible show wpList _ _ _ (Oper.mk _ (Op.load 26 _) _ _ _ _ :: _) _ _); refine wpList_load_row rfl 26 _ rfl b0 rfl _ _ _ _ HR3.out Try.underlying26 rfl (by kernel_rfl) ?_) | ((with_reducible show wpList _ _ _ (Oper.mk none (Op.store 26 _ _) _ _ _ _ :: _) _ _); refine wpList_store_row rfl 26 _ _ rfl (b0 + 1) #[.int .i64 t.k, .int .i64 t.d, .int .i64 t.f, .int .i64 t.p, .int .u32 t.l, .int .i64 t.i, .slice a1 t.kl c1, .slice a2 t.sl c2, .slice a3 t.pl c3] rfl rfl 26 _ HRC3.out (by kernel_rfl) rfl (by simp [Value.oneCell']) ?_))
 exact bodyPost_ret (results_cell_row rfl _ _ _ _ _ _ _ rfl (setRow_heap _ _ _ _ _ _ HRC3.out) Try.underlying26 rfl (by kernel_rfl)) rfl (by
  rw [hb0]
  have hko : ∀ {x : Value} {z : List Int}, OwnB b0 X3 x z → OwnB b0 (X3.setRow (b0 + 1) #[.int .i64 t.k, .int .i64 t.d, .int .i64 t.f, .int .i64 t.p, .int .u32 t.l, .int .i64 t.i, .slice a1 t.kl c1, .slice a2 t.sl c2, .slice a3 t.pl c3]) x z := fun {x z} h => h.kb (KB.of_but ((But.refl (b0 + 1) _).setRow _) (Nat.zero_le _) (Nat.zero_le _) HRC3.out (by decide))
  exact ⟨_, rfl, ⟨a1, c1, a2, c2, a3, c3, rfl, hko HO1.out, hko HO2.out, hko HO3.out⟩, below_setRow HB3.out (by omega) _⟩)
end Go.Proofs.Ytchepcilkcdemaa
