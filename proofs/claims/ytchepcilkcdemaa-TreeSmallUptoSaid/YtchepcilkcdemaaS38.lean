/- The digest of a message, by both sides; a tree with bytes of its own. No condition. -/
import Derived.Test.YtchepcilkcdemaaS36
import Derived.Test.YtchepcilkcdemaaS37
import Derived.Test.YtchepcilkcdemaaS17
set_option linter.all false
set_option maxRecDepth 100000
set_option maxHeartbeats 8000000
namespace Go.Proofs.Ytchepcilkcdemaa
open Go.ChangeShapes Go.WideShapes Go.ChangeAt Go.RowKit Go.Joins Go.Shelf Go.Maps
open Go.Lib (hid)
attribute [local go_sem] Oper.semAt_some
/-- The digest of a message (none of a tree that may not be). -/
def TreeV.digZ (t : TreeV) (kz z1 z2 zs : List Int) : List Int := if t.validE = 0 then nthL (t.lvlZ kz z1 z2 (t.leafZ kz z1 z2 zs) ((t.rowsOf zs.length).length - 1)) 0 else []
theorem err_small {t : TreeV} {total : Nat} (h : t.validE = 0) (hn : total ≤ 4194304) : t.err total = 0 := by
 unfold TreeV.err
 rw [if_neg (by simp [h]), if_neg ?_]
 rintro ⟨-, h2⟩
 have hl : 1 ≤ t.ln ∨ t.ln = 0 := by omega
 rcases hl with hl | hl
 ·have := cdiv_le (n := total) hl; omega
 ·rw [hl] at h2
  unfold cdiv at h2
  split at h2 <;> simp at h2
theorem leafZ_rows {t : TreeV} (h : t.validE = 0) (hl : 0 ≤ t.l ∧ t.l ≤ 4294967295) (kz z1 z2 zs : List Int) : (t.leafZ kz z1 z2 zs).length = lvs zs.length t.ln := by
 have hln : 1 ≤ t.ln := by
  have := (TreeV.valid_facts h).2.2.2.2.2.2.2.2.1
  unfold TreeV.ln; omega
 rw [← cutZ_length zs hln]
 exact TreeV.rowZ_length ..
/-- What both Hashes answer. -/
def DigIs (t : TreeV) (kz z1 z2 zs : List Int) (w : World) (e : Ending) (w' : World) : Prop :=
 ∃ u, e = .returned (.tuple #[u, .int .i64 t.validE]) ∧ OwnB w.heap.size w' u (t.digZ kz z1 z2 zs) ∧ Below w.heap.size w w'
theorem hash_any (t : TreeV) (kz z1 z2 zs : List Int) (v : Value) (w : World) (hl : 0 ≤ t.l ∧ t.l ≤ 4294967295) (hk : Hold w (.slice t.ka t.kl t.kc) kz) (hs : Hold w (.slice t.sa t.sl t.sc) z1) (hp : Hold w (.slice t.pa t.pl t.pc) z2) (hv : Hold w v zs) (hn : zs.length ≤ 4194304) :
  Calls Try.prog 11 #[t.val, v] w fun e w' => DigIs t kz z1 z2 zs w e w' := by
 by_cases h : t.validE = 0
 ·refine (hash_ok t kz z1 z2 zs v w ⟨h, hl, hk, hs, hp⟩ hv hn).mono ?_
  rintro e w' ⟨u, rfl, ⟨R, hR, ho⟩, hb⟩
  have hL := TreeV.leafZ_facts h hl kz z1 z2 zs
  have hT := top_rows (err_small h hn) kz z1 z2 (leafZ_rows h hl kz z1 z2 zs) hL.2.2
  rw [TreeV.topAt_one hR hT] at ho
  exact ⟨u, by rw [h], by unfold TreeV.digZ; rw [if_pos h]; exact ho, hb⟩
 ·refine (hash_err t v w h).mono ?_
  rintro e w' ⟨rfl, hb⟩
  exact ⟨_, rfl, by unfold TreeV.digZ; rw [if_neg h]; exact ⟨fun _ h => by simp at h, .inl ⟨rfl, rfl⟩⟩, hb⟩
/-- The same tree, with its bytes elsewhere. -/
def TreeV.sw (t : TreeV) (a1 : Option Addr) (c1 : Nat) (a2 : Option Addr) (c2 : Nat) (a3 : Option Addr) (c3 : Nat) : TreeV := ⟨t.k, t.d, t.f, t.p, t.l, t.i, a1, t.kl, c1, a2, t.sl, c2, a3, t.pl, c3⟩
theorem TreeV.lvlZ_sw (t : TreeV) (a1 : Option Addr) (c1 : Nat) (a2 : Option Addr) (c2 : Nat) (a3 : Option Addr) (c3 : Nat) (kz z1 z2 : List Int) (L0 : List (List Int)) : ∀ r, (t.sw a1 c1 a2 c2 a3 c3).lvlZ kz z1 z2 L0 r = t.lvlZ kz z1 z2 L0 r
 | 0 => rfl
 | r + 1 => by
  show TreeV.rowZ _ _ _ _ _ (TreeV.rootZ _ _ (TreeV.lvlZ _ _ _ _ _ r).length) (TreeV.upZ _ _ (TreeV.lvlZ _ _ _ _ _ r)) (TreeV.upZ _ _ (TreeV.lvlZ _ _ _ _ _ r)).length = _
  rw [TreeV.lvlZ_sw t a1 c1 a2 c2 a3 c3 kz z1 z2 L0 r]
  rfl
theorem TreeV.digZ_sw (t : TreeV) (a1 : Option Addr) (c1 : Nat) (a2 : Option Addr) (c2 : Nat) (a3 : Option Addr) (c3 : Nat) (kz z1 z2 zs : List Int) : (t.sw a1 c1 a2 c2 a3 c3).digZ kz z1 z2 zs = t.digZ kz z1 z2 zs := by
 unfold TreeV.digZ
 rw [TreeV.lvlZ_sw]
 rfl
/-- What 'own' answers. -/
def OwnTree (t : TreeV) (kz z1 z2 : List Int) (B : Nat) (w : World) (v : Value) : Prop :=
 ∃ a1 c1 a2 c2 a3 c3, v = (t.sw a1 c1 a2 c2 a3 c3).val ∧ OwnB B w (.slice a1 t.kl c1) kz ∧ OwnB B w (.slice a2 t.sl c2) z1 ∧ OwnB B w (.slice a3 t.pl c3) z2
theorem OwnTree.below {t : TreeV} {kz z1 z2 : List Int} {B : Nat} {w w' : World} {v : Value} (h : OwnTree t kz z1 z2 B w v) (hb : Below w.heap.size w w') : OwnTree t kz z1 z2 B w' v := by
 obtain ⟨a1, c1, a2, c2, a3, c3, e, h1, h2, h3⟩ := h
 have k := KB.of_below hb (Nat.zero_le _)
 exact ⟨a1, c1, a2, c2, a3, c3, e, h1.kb k, h2.kb k, h3.kb k⟩
theorem own10_ok (t : TreeV) (kz z1 z2 : List Int) (w : World) (h1 : Hold w (.slice t.ka t.kl t.kc) kz) (h2 : Hold w (.slice t.sa t.sl t.sc) z1) (h3 : Hold w (.slice t.pa t.pl t.pc) z2) (hk : t.kl ≤ 70368744177664) (hs : t.sl ≤ 70368744177664) (hp : t.pl ≤ 70368744177664) :
  Calls Try.prog 10 #[t.val] w fun e w' => ∃ u, e = .returned u ∧ OwnTree t kz z1 z2 w.heap.size w' u ∧ Below w.heap.size w w' := by
 obtain ⟨b0, hb0⟩ : ∃ b0, w.heap.size = b0 := ⟨_, rfl⟩
 have e1 := hold_len h1
 have e2 := hold_len h2
 have e3 := hold_len h3
 have HC1 := hid (fun (W : World) (hb : Below b0 w W) => copied_ok kz _ W (h1.below (hb0 ▸ hb)) (by omega))
 have HC2 := hid (fun (W : World) (hb : Below b0 w W) => copied_ok z1 _ W (h2.below (hb0 ▸ hb)) (by omega))
 have HC3 := hid (fun (W : World) (hb : Below b0 w W) => copied_ok z2 _ W (h3.below (hb0 ▸ hb)) (by omega))
 have E1 := hid e1
 have E2 := hid e2
 have E3 := hid e3
 clear h1 h2 h3 e1 e2 e3 hk hs hp
 unfold TreeV.val
 go_enter Try.func10, Try.ntmps10
 go_upto_region 1 with (fail)
 refine letterW ?_
 intro V hV
 have hrT : V.heap[b0]? = some (.cells #[.int .i64 t.k, .int .i64 t.d, .int .i64 t.f, .int .i64 t.p, .int .u32 t.l, .int .i64 t.i, .slice t.ka t.kl t.kc, .slice t.sa t.sl t.sc, .slice t.pa t.pl t.pc] 26 (0, 0)) := by rw [hV]; exact (Below.heap_alloc _ _ _ (by simp; omega)).trans (World.alloc_new_at _ _ hb0.symm)
 have hrC : V.heap[b0 + 1]? = some (.cells #[.int .i64 0, .int .i64 0, .int .i64 0, .int .i64 0, .int .u32 0, .int .i64 0, .slice none 0 0, .slice none 0 0, .slice none 0 0] 26 (0, 0)) := by rw [hV]; exact World.alloc_new_at _ _ (by simp; omega)
 have hbA : Below b0 w V := by rw [hV, ← hb0]; exact ((Below.refl _ _).alloc (Nat.le_refl _) _).alloc (by simp) _
 have hsA : V.heap.size = b0 + 2 := by rw [hV]; simp; omega
 clear hV
 have c1x : V.cell? ⟨b0, 6, none⟩ = some (.slice t.ka t.kl t.kc) := cell_of_heap hrT 6
 have hs1x : b0 < V.heap.size := (Array.getElem?_eq_some_iff.1 hrT).1
 go_wp2_with fail
 refine (HC1.out V hbA).mono ?_; rintro e w1 ⟨u1, rfl, ho1, hb1⟩
 obtain ⟨a1, c1, rfl, -, -⟩ := ho1.hold.slice
 rw [E1.out] at ho1 ⊢
 have hr1 := rowStay hrT hb1
 have g1 : w1.cell? ⟨b0, 6, none⟩ = some (.slice t.ka t.kl t.kc) := cell_of_heap hr1 6
 have f1 := frozen_of_row w1 b0 6 _ _ hr1
 have s1 : b0 < w1.heap.size := (Array.getElem?_eq_some_iff.1 hr1).1
 have HS1 := hid (show b0 + 1 < V.heap.size from (Array.getElem?_eq_some_iff.1 hrC).1)
 have q1 := hb1.size
 have HRC1 := hid (rowStay hrC hb1)
 have HR1 := hid hr1
 have HBX1 := hid (hbA.trans (hb1.mono (show b0 ≤ V.heap.size by omega)))
 have KX1 := hid (KB.of_below hb1 (Nat.zero_le _))
 have HOX1 := hid (ho1.le (show b0 ≤ V.heap.size by omega))
 clear hr1 hb1 ho1 c1x hs1x
 go_upto_region 2 with (fail)
 refine letterW ?_
 intro X1 hX1
 have K1 := hid (show KB 0 V X1 from KX1.out.trans (by rw [hX1]; exact KB.of_but ((But.refl b0 _).set 6 _) (Nat.zero_le _) (Nat.zero_le _) HR1.out (by decide)))
 have k1 := hid (show KB 0 w1 X1 by rw [hX1]; exact KB.of_but ((But.refl b0 _).set 6 _) (Nat.zero_le _) (Nat.zero_le _) HR1.out (by decide))
 have hrX1 : X1.heap[b0]? = some (.cells #[.int .i64 t.k, .int .i64 t.d, .int .i64 t.f, .int .i64 t.p, .int .u32 t.l, .int .i64 t.i, .slice a1 t.kl c1, .slice t.sa t.sl t.sc, .slice t.pa t.pl t.pc] 26 (0, 0)) := by rw [hX1]; exact heap_setCell_same _ b0 6 _ _ _ HR1.out
 have hrY1 : X1.heap[b0 + 1]? = some (.cells #[.int .i64 0, .int .i64 0, .int .i64 0, .int .i64 0, .int .u32 0, .int .i64 0, .slice none 0 0, .slice none 0 0, .slice none 0 0] 26 (0, 0)) := by rw [hX1]; exact (heap_setCell_other _ _ _ _ (show b0 + 1 ≠ b0 by omega)).trans HRC1.out
 have hbX1 : Below b0 w X1 := by rw [hX1]; exact HBX1.out.setCell (Nat.le_refl b0) _
 have HO1 := hid (HOX1.out.kb k1.out)
 clear hX1 g1 f1 s1 q1 HRC1 HR1 HBX1 KX1 HOX1 HS1
 have c2x : X1.cell? ⟨b0, 7, none⟩ = some (.slice t.sa t.sl t.sc) := cell_of_heap hrX1 7
 have hs2x : b0 < X1.heap.size := (Array.getElem?_eq_some_iff.1 hrX1).1
 go_wp2_with fail
 refine (HC2.out X1 hbX1).mono ?_; rintro e w2 ⟨u2, rfl, ho2, hb2⟩
 obtain ⟨a2, c2, rfl, -, -⟩ := ho2.hold.slice
 rw [E2.out] at ho2 ⊢
 have hr2 := rowStay hrX1 hb2
 have g2 : w2.cell? ⟨b0, 7, none⟩ = some (.slice t.sa t.sl t.sc) := cell_of_heap hr2 7
 have f2 := frozen_of_row w2 b0 7 _ _ hr2
 have s2 : b0 < w2.heap.size := (Array.getElem?_eq_some_iff.1 hr2).1
 have HS2 := hid (show b0 + 1 < X1.heap.size from (Array.getElem?_eq_some_iff.1 hrY1).1)
 have q2 := hb2.size
 have HRC2 := hid (rowStay hrY1 hb2)
 have HR2 := hid hr2
 have HBX2 := hid (hbX1.trans (hb2.mono (show b0 ≤ X1.heap.size by omega)))
 have KX2 := hid (KB.of_below hb2 (Nat.zero_le _))
 have HOX2 := hid (ho2.le (show b0 ≤ X1.heap.size by omega))
 clear hr2 hb2 ho2 c2x hs2x
 go_upto_region 3 with (fail)
 refine letterW ?_
 intro X2 hX2
 have K2 := hid (show KB 0 X1 X2 from KX2.out.trans (by rw [hX2]; exact KB.of_but ((But.refl b0 _).set 7 _) (Nat.zero_le _) (Nat.zero_le _) HR2.out (by decide)))
 have k2 := hid (show KB 0 w2 X2 by rw [hX2]; exact KB.of_but ((But.refl b0 _).set 7 _) (Nat.zero_le _) (Nat.zero_le _) HR2.out (by decide))
 have hrX2 : X2.heap[b0]? = some (.cells #[.int .i64 t.k, .int .i64 t.d, .int .i64 t.f, .int .i64 t.p, .int .u32 t.l, .int .i64 t.i, .slice a1 t.kl c1, .slice a2 t.sl c2, .slice t.pa t.pl t.pc] 26 (0, 0)) := by rw [hX2]; exact heap_setCell_same _ b0 7 _ _ _ HR2.out
 have hrY2 : X2.heap[b0 + 1]? = some (.cells #[.int .i64 0, .int .i64 0, .int .i64 0, .int .i64 0, .int .u32 0, .int .i64 0, .slice none 0 0, .slice none 0 0, .slice none 0 0] 26 (0, 0)) := by rw [hX2]; exact (heap_setCell_other _ _ _ _ (show b0 + 1 ≠ b0 by omega)).trans HRC2.out
 have hbX2 : Below b0 w X2 := by rw [hX2]; exact HBX2.out.setCell (Nat.le_refl b0) _
 have HO2 := hid (HOX2.out.kb k2.out)
 have HO1 := hid (HO1.out.kb K2.out)
 clear hX2 g2 f2 s2 q2 HRC2 HR2 HBX2 KX2 HOX2 HS2
 have c3x : X2.cell? ⟨b0, 8, none⟩ = some (.slice t.pa t.pl t.pc) := cell_of_heap hrX2 8
 have hs3x : b0 < X2.heap.size := (Array.getElem?_eq_some_iff.1 hrX2).1
 go_wp2_with fail
 refine (HC3.out X2 hbX2).mono ?_; rintro e w3 ⟨u3, rfl, ho3, hb3⟩
 obtain ⟨a3, c3, rfl, -, -⟩ := ho3.hold.slice
 rw [E3.out] at ho3 ⊢
 have hr3 := rowStay hrX2 hb3
 have g3 : w3.cell? ⟨b0, 8, none⟩ = some (.slice t.pa t.pl t.pc) := cell_of_heap hr3 8
 have f3 := frozen_of_row w3 b0 8 _ _ hr3
 have s3 : b0 < w3.heap.size := (Array.getElem?_eq_some_iff.1 hr3).1
 have HS3 := hid (show b0 + 1 < X2.heap.size from (Array.getElem?_eq_some_iff.1 hrY2).1)
 have q3 := hb3.size
 have HRC3 := hid (rowStay hrY2 hb3)
 have HR3 := hid hr3
 have HBX3 := hid (hbX2.trans (hb3.mono (show b0 ≤ X2.heap.size by omega)))
 have KX3 := hid (KB.of_below hb3 (Nat.zero_le _))
 have HOX3 := hid (ho3.le (show b0 ≤ X2.heap.size by omega))
 clear hr3 hb3 ho3 c3x hs3x
 go_upto_region 4 with (fail)
 refine letterW ?_
 intro X3 hX3
 have K3 := hid (show KB 0 X2 X3 from KX3.out.trans (by rw [hX3]; exact KB.of_but ((But.refl b0 _).set 8 _) (Nat.zero_le _) (Nat.zero_le _) HR3.out (by decide)))
 have k3 := hid (show KB 0 w3 X3 by rw [hX3]; exact KB.of_but ((But.refl b0 _).set 8 _) (Nat.zero_le _) (Nat.zero_le _) HR3.out (by decide))
 have hrX3 : X3.heap[b0]? = some (.cells #[.int .i64 t.k, .int .i64 t.d, .int .i64 t.f, .int .i64 t.p, .int .u32 t.l, .int .i64 t.i, .slice a1 t.kl c1, .slice a2 t.sl c2, .slice a3 t.pl c3] 26 (0, 0)) := by rw [hX3]; exact heap_setCell_same _ b0 8 _ _ _ HR3.out
 have hrY3 : X3.heap[b0 + 1]? = some (.cells #[.int .i64 0, .int .i64 0, .int .i64 0, .int .i64 0, .int .u32 0, .int .i64 0, .slice none 0 0, .slice none 0 0, .slice none 0 0] 26 (0, 0)) := by rw [hX3]; exact (heap_setCell_other _ _ _ _ (show b0 + 1 ≠ b0 by omega)).trans HRC3.out
 have hbX3 : Below b0 w X3 := by rw [hX3]; exact HBX3.out.setCell (Nat.le_refl b0) _
 have HO3 := hid (HOX3.out.kb k3.out)
 have HO1 := hid (HO1.out.kb K3.out)
 have HO2 := hid (HO2.out.kb K3.out)
 clear hX3 g3 f3 s3 q3 HRC3 HR3 HBX3 KX3 HOX3 HS3
 have HRC3 := hid hrY3
 have HB3 := hid hbX3
 have HR3 := hid hrX3
 go_wp2_with (first | ((with_reducible show wpList _ _ _ (Oper.mk _ (Op.load 26 _) _ _ _ _ :: _) _ _); refine wpList_load_row rfl 26 _ rfl b0 rfl _ _ _ _ HR3.out Try.underlying26 rfl (by kernel_rfl) ?_) | ((with_reducible show wpList _ _ _ (Oper.mk none (Op.store 26 _ _) _ _ _ _ :: _) _ _); refine wpList_store_row rfl 26 _ _ rfl (b0 + 1) #[.int .i64 t.k, .int .i64 t.d, .int .i64 t.f, .int .i64 t.p, .int .u32 t.l, .int .i64 t.i, .slice a1 t.kl c1, .slice a2 t.sl c2, .slice a3 t.pl c3] rfl rfl 26 _ HRC3.out (by kernel_rfl) rfl (by simp [Value.oneCell']) ?_))
 exact bodyPost_ret (results_cell_row rfl _ _ _ _ _ _ _ rfl (setRow_heap _ _ _ _ _ _ HRC3.out) Try.underlying26 rfl (by kernel_rfl)) rfl (by
  rw [hb0]
  have hko : ∀ {x : Value} {z : List Int}, OwnB b0 X3 x z → OwnB b0 (X3.setRow (b0 + 1) #[.int .i64 t.k, .int .i64 t.d, .int .i64 t.f, .int .i64 t.p, .int .u32 t.l, .int .i64 t.i, .slice a1 t.kl c1, .slice a2 t.sl c2, .slice a3 t.pl c3]) x z := fun {x z} h => h.kb (KB.of_but ((But.refl (b0 + 1) _).setRow _) (Nat.zero_le _) (Nat.zero_le _) HRC3.out (by decide))
  exact ⟨_, rfl, ⟨a1, c1, a2, c2, a3, c3, rfl, hko HO1.out, hko HO2.out, hko HO3.out⟩, below_setRow HB3.out (by omega) _⟩)
def CH (b : Nat) (W : World) (u : Value) (n : Nat) (zs : List Int) : Prop := ∃ a c, u = .slice a n c ∧ Hold W u zs ∧ (zs = [] ∨ u.ownBlock ≠ some b)
def CO (b : Nat) (W : World) (u : Value) (n : Nat) (zs : List Int) : Prop := ∃ a c, u = .slice a n c ∧ OwnB (b + 2) W u zs
theorem CH.but {b : Nat} {W W' : World} {u : Value} {n : Nat} {zs : List Int} (h : CH b W u n zs) (hb : But b W W') : CH b W' u n zs := by
 obtain ⟨a, c, e, h1, h2⟩ := h
 rcases h2 with rfl | h2
 ·refine ⟨a, c, e, ⟨h1.1, ?_⟩, .inl rfl⟩
  rcases h1.2 with h3 | ⟨ad, cap, h3, h4, h5, -⟩
  ·exact .inl h3
  ·exact .inr ⟨ad, cap, h3, h4, h5, .inl rfl⟩
 ·exact ⟨a, c, e, h1.keep hb.size (fun k hk hl => hb.block k hl (fun e2 => h2 (by rw [hk, e2]))), .inr h2⟩
theorem CO.but {b : Nat} {W W' : World} {u : Value} {n : Nat} {zs : List Int} (h : CO b W u n zs) (hb : But b W W') : CO b W' u n zs := by
 obtain ⟨a, c, e, h1, h2⟩ := h
 refine ⟨a, c, e, h1, ?_⟩
 rcases h2 with h2 | ⟨g, cap, cur, e2, h3, h4, h5⟩
 ·exact .inl h2
 ·exact .inr ⟨g, cap, cur, e2, h3, (hb.block g (Array.getElem?_eq_some_iff.1 h4).1 (by omega)).trans h4, h5⟩
theorem CO.ch {b : Nat} {W : World} {u : Value} {n : Nat} {zs : List Int} (h : CO b W u n zs) : CH b W u n zs := by
 obtain ⟨a, c, e, h1⟩ := h
 exact ⟨a, c, e, h1.hold, .inr fun e2 => by have := fresh_block h1.2 b e2; omega⟩
def CS (b j n : Nat) (zs : List Int) (W : World) : Prop := ∃ cur v, W.heap[b]? = some (.cells cur 26 (0, 0)) ∧ cur[j]? = some v ∧ CO b W v n zs
theorem CS.below {b j n : Nat} {zs : List Int} {W W' : World} (h : CS b j n zs W) (hb : Below W.heap.size W W') : CS b j n zs W' := by
 obtain ⟨cur, v, h1, h2, h3⟩ := h
 exact ⟨cur, v, rowStay h1 hb, h2, h3.but (But.of_below' hb)⟩
theorem CS.set {b i j n : Nat} {zs : List Int} {W : World} {x : Value} (h : CS b j n zs W) (hij : i ≠ j) : CS b j n zs (W.setCell ⟨b, i, none⟩ x) := by
 obtain ⟨cur, v, h1, h2, h3⟩ := h
 exact ⟨_, v, heap_setCell_same W b i _ _ _ h1, by rw [Array.getElem?_setIfInBounds_ne hij]; exact h2, h3.but ((But.refl b _).set i _)⟩
def CopyR (t : TreeV) (kz z1 z2 : List Int) (b0 : Nat) (w W : World) : Prop :=
 Below b0 w W ∧ W.heap[b0 + 1]? = some (.cells #[.int .i64 0, .int .i64 0, .int .i64 0, .int .i64 0, .int .u32 0, .int .i64 0, .slice none 0 0, .slice none 0 0, .slice none 0 0] 26 (0, 0)) ∧ ∃ v1 v2 v3, W.heap[b0]? = some (.cells #[.int .i64 t.k, .int .i64 t.d, .int .i64 t.f, .int .i64 t.p, .int .u32 t.l, .int .i64 t.i, v1, v2, v3] 26 (0, 0)) ∧ CH b0 W v1 t.kl kz ∧ CH b0 W v2 t.sl z1 ∧ CH b0 W v3 t.pl z2
theorem CopyR.below {t : TreeV} {kz z1 z2 : List Int} {b0 : Nat} {w W W' : World} (h : CopyR t kz z1 z2 b0 w W) (hb : Below W.heap.size W W') : CopyR t kz z1 z2 b0 w W' := by
 obtain ⟨h1, h2, v1, v2, v3, h3, h4, h5, h6⟩ := h
 have hs := (Array.getElem?_eq_some_iff.1 h3).1
 exact ⟨h1.trans (hb.mono (by omega)), rowStay h2 hb, v1, v2, v3, rowStay h3 hb, h4.but (But.of_below' hb), h5.but (But.of_below' hb), h6.but (But.of_below' hb)⟩
theorem copiedT_ok (t : TreeV) (kz z1 z2 : List Int) (w : World) (h1 : Hold w (.slice t.ka t.kl t.kc) kz) (h2 : Hold w (.slice t.sa t.sl t.sc) z1) (h3 : Hold w (.slice t.pa t.pl t.pc) z2) (hk : t.kl ≤ 70368744177664) (hs : t.sl ≤ 70368744177664) (hp : t.pl ≤ 70368744177664) :
  Calls Try.prog 37 #[t.val] w fun e w' => ∃ u, e = .returned u ∧ OwnTree t kz z1 z2 w.heap.size w' u ∧ Below w.heap.size w w' := by
 obtain ⟨i0, hi, hz0, hz1, hz2⟩ := info_parts info_u8
 obtain ⟨b0, hb0⟩ : ∃ b0, w.heap.size = b0 := ⟨_, rfl⟩
 have e1 := hold_len h1
 have e2 := hold_len h2
 have e3 := hold_len h3
 have E1 := hid e1
 have E2 := hid e2
 have E3 := hid e3
 have HC1 := hid h1
 have HC2 := hid h2
 have HC3 := hid h3
 have LK := hid (show kz.length ≤ 70368744177664 by omega)
 have LS := hid (show z1.length ≤ 70368744177664 by omega)
 have LP := hid (show z2.length ≤ 70368744177664 by omega)
 clear h1 h2 h3 e1 e2 e3 hk hs hp
 unfold TreeV.val
 go_enter Try.func37, Try.ntmps37
 go_upto_region 1 with (fail)
 refine letterW ?_
 intro V hV
 have hrT : V.heap[b0]? = some (.cells #[.int .i64 t.k, .int .i64 t.d, .int .i64 t.f, .int .i64 t.p, .int .u32 t.l, .int .i64 t.i, .slice t.ka t.kl t.kc, .slice t.sa t.sl t.sc, .slice t.pa t.pl t.pc] 26 (0, 0)) := by rw [hV]; exact (Below.heap_alloc _ _ _ (by simp; omega)).trans (World.alloc_new_at _ _ hb0.symm)
 have hrC : V.heap[b0 + 1]? = some (.cells #[.int .i64 0, .int .i64 0, .int .i64 0, .int .i64 0, .int .u32 0, .int .i64 0, .slice none 0 0, .slice none 0 0, .slice none 0 0] 26 (0, 0)) := by rw [hV]; exact World.alloc_new_at _ _ (by simp; omega)
 have hbA : Below b0 w V := by rw [hV, ← hb0]; exact ((Below.refl _ _).alloc (Nat.le_refl _) _).alloc (by simp) _
 have hsA : V.heap.size = b0 + 2 := by rw [hV]; simp; omega
 clear hV
 have hch : ∀ {a : Option Addr} {n c : Nat} {zs : List Int}, Hold w (.slice a n c) zs → CH b0 V (.slice a n c) n zs := fun {a n c zs} h => by
  refine ⟨a, c, rfl, h.below (hb0 ▸ hbA), ?_⟩
  rcases h.2 with ⟨h3, -⟩ | ⟨ad, cap, h3, -, -, h4⟩
  ·exact .inl h3
  ·rcases h4 with h4 | ⟨b, off, rfl, h4, -⟩
   ·exact .inl h4
   ·refine .inr fun e => ?_
    rw [h3] at e
    simp only [Value.ownBlock, Option.some.injEq] at e
    omega
 have hR0 : CopyR t kz z1 z2 b0 w V := ⟨hbA, hrC, _, _, _, hrT, hch HC1.out, hch HC2.out, hch HC3.out⟩
 clear hch hrT hrC hbA hsA HC1 HC2 HC3
 refine wp_region_rc (n := 15) (R := CopyR t kz z1 z2 b0 w) [.v 3 (.pointer (some ⟨b0, 6, none⟩)), .p 4 (fun u W => CH b0 W u t.kl kz), .p 5 (fun u W => CO b0 W u t.kl kz), .v 6 (.pointer (some ⟨b0, 7, none⟩)), .p 7 (fun u W => CH b0 W u t.sl z1), .p 8 (fun u W => CO b0 W u t.sl z1), .v 9 (.pointer (some ⟨b0, 8, none⟩)), .p 10 (fun u W => CH b0 W u t.pl z2), .p 11 (fun u W => CO b0 W u t.pl z2), .v 12 (.pointer (some ⟨b0, 6, none⟩)), .s (CS b0 6 t.kl kz), .v 13 (.pointer (some ⟨b0, 7, none⟩)), .s (CS b0 7 t.sl z1), .v 14 (.pointer (some ⟨b0, 8, none⟩)), .s (CS b0 8 t.pl z2)] (hR0.below (Below.refl _ _).drew) ?_ ?_
 ·repeat' (with_reducible first | exact eachO_nil | refine eachO_cons ?_ ?_)
  all_goals try
   intro A x W hA hR hdep D K hK
   have a1 := hA.2 1 (by decide)
   conv at a1 => rhs; whnf
   simp only [DepF, nthF] at D
   clear hdep hA
   go_simp
   exact hK _ _ hR (fun _ _ _ h => h) rfl
  ·intro A x W hA hR hdep _ K hK
   have g3 := gv hA hdep 0 3
   clear hdep hA
   obtain ⟨hWb, hWc, v1, v2, v3, hrow, k1, k2, k3⟩ := id hR
   obtain ⟨a7, c7, rfl, -, -⟩ := id k1
   have c9 := cell_of_heap hrow 6
   have hbW : b0 < W.heap.size := (Array.getElem?_eq_some_iff.1 hrow).1
   go_simp
   exact hK _ _ hR (fun _ _ _ h => h) k1
  ·intro A x W hA hR hdep D K hK
   simp only [DepF, nthF] at D
   obtain ⟨⟨a7, c7, e7, hh7, -⟩, -⟩ := D
   clear hdep hA
   have hbW : b0 + 1 < W.heap.size := (Array.getElem?_eq_some_iff.1 hR.2.1).1
   refine wp_append_src2 _ _ 24 rfl (b0 + 2) 5 i0 (.int .u8 0) 1 Try.underlying24 hi hz0 hz1 hz2 rfl (.slice none 0 0) 0 [] rfl (World.ownsRow_nil _ _ _ _) _ _ _ rfl hh7.src (by have := LK.out; unfold maxLen; omega) (by have := LK.out; omega) (by omega) ?_
   intro v' w' k1 k2 _
   have hsp := Spare.of_grown k2
   have hbw : Below W.heap.size W w' := ⟨hsp.os, hsp.tape, hsp.output, hsp.size, fun k hk => hsp.block k hk (by intro e; cases e)⟩
   have hbut : But b0 W w' := But.of_below' hbw
   rw [Nat.zero_add, List.nil_append] at k1
   obtain ⟨va, vn, vc, rfl⟩ := own_slice k1
   obtain rfl := own_len k1
   exact hK _ _ (hR.below hbw) (fun j u hj h => match j, hj, h with | 0, _, h => h | 1, _, h => CH.but h hbut | 2, hj, _ => absurd rfl hj | 3, _, h => h | 4, _, h => CH.but h hbut | 5, _, h => CO.but h hbut | 6, _, h => h | 7, _, h => CH.but h hbut | 8, _, h => CO.but h hbut | 9, _, h => h | 10, _, h => CS.below h hbw | 11, _, h => h | 12, _, h => CS.below h hbw | 13, _, h => h | 14, _, h => CS.below h hbw | (_ + 15), _, h => h) ⟨va, vc, by rw [E1.out], hh7.1, fresh_of_own k1⟩
  ·intro A x W hA hR hdep _ K hK
   have g6 := gv hA hdep 3 6
   clear hdep hA
   obtain ⟨hWb, hWc, v1, v2, v3, hrow, k1, k2, k3⟩ := id hR
   obtain ⟨a7, c7, rfl, -, -⟩ := id k2
   have c9 := cell_of_heap hrow 7
   have hbW : b0 < W.heap.size := (Array.getElem?_eq_some_iff.1 hrow).1
   go_simp
   exact hK _ _ hR (fun _ _ _ h => h) k2
  ·intro A x W hA hR hdep D K hK
   simp only [DepF, nthF] at D
   obtain ⟨⟨a7, c7, e7, hh7, -⟩, -⟩ := D
   clear hdep hA
   have hbW : b0 + 1 < W.heap.size := (Array.getElem?_eq_some_iff.1 hR.2.1).1
   refine wp_append_src2 _ _ 24 rfl (b0 + 2) 5 i0 (.int .u8 0) 1 Try.underlying24 hi hz0 hz1 hz2 rfl (.slice none 0 0) 0 [] rfl (World.ownsRow_nil _ _ _ _) _ _ _ rfl hh7.src (by have := LS.out; unfold maxLen; omega) (by have := LS.out; omega) (by omega) ?_
   intro v' w' k1 k2 _
   have hsp := Spare.of_grown k2
   have hbw : Below W.heap.size W w' := ⟨hsp.os, hsp.tape, hsp.output, hsp.size, fun k hk => hsp.block k hk (by intro e; cases e)⟩
   have hbut : But b0 W w' := But.of_below' hbw
   rw [Nat.zero_add, List.nil_append] at k1
   obtain ⟨va, vn, vc, rfl⟩ := own_slice k1
   obtain rfl := own_len k1
   exact hK _ _ (hR.below hbw) (fun j u hj h => match j, hj, h with | 0, _, h => h | 1, _, h => CH.but h hbut | 2, _, h => CO.but h hbut | 3, _, h => h | 4, _, h => CH.but h hbut | 5, hj, _ => absurd rfl hj | 6, _, h => h | 7, _, h => CH.but h hbut | 8, _, h => CO.but h hbut | 9, _, h => h | 10, _, h => CS.below h hbw | 11, _, h => h | 12, _, h => CS.below h hbw | 13, _, h => h | 14, _, h => CS.below h hbw | (_ + 15), _, h => h) ⟨va, vc, by rw [E2.out], hh7.1, fresh_of_own k1⟩
  ·intro A x W hA hR hdep _ K hK
   have g9 := gv hA hdep 6 9
   clear hdep hA
   obtain ⟨hWb, hWc, v1, v2, v3, hrow, k1, k2, k3⟩ := id hR
   obtain ⟨a7, c7, rfl, -, -⟩ := id k3
   have c9 := cell_of_heap hrow 8
   have hbW : b0 < W.heap.size := (Array.getElem?_eq_some_iff.1 hrow).1
   go_simp
   exact hK _ _ hR (fun _ _ _ h => h) k3
  ·intro A x W hA hR hdep D K hK
   simp only [DepF, nthF] at D
   obtain ⟨⟨a7, c7, e7, hh7, -⟩, -⟩ := D
   clear hdep hA
   have hbW : b0 + 1 < W.heap.size := (Array.getElem?_eq_some_iff.1 hR.2.1).1
   refine wp_append_src2 _ _ 24 rfl (b0 + 2) 5 i0 (.int .u8 0) 1 Try.underlying24 hi hz0 hz1 hz2 rfl (.slice none 0 0) 0 [] rfl (World.ownsRow_nil _ _ _ _) _ _ _ rfl hh7.src (by have := LP.out; unfold maxLen; omega) (by have := LP.out; omega) (by omega) ?_
   intro v' w' k1 k2 _
   have hsp := Spare.of_grown k2
   have hbw : Below W.heap.size W w' := ⟨hsp.os, hsp.tape, hsp.output, hsp.size, fun k hk => hsp.block k hk (by intro e; cases e)⟩
   have hbut : But b0 W w' := But.of_below' hbw
   rw [Nat.zero_add, List.nil_append] at k1
   obtain ⟨va, vn, vc, rfl⟩ := own_slice k1
   obtain rfl := own_len k1
   exact hK _ _ (hR.below hbw) (fun j u hj h => match j, hj, h with | 0, _, h => h | 1, _, h => CH.but h hbut | 2, _, h => CO.but h hbut | 3, _, h => h | 4, _, h => CH.but h hbut | 5, _, h => CO.but h hbut | 6, _, h => h | 7, _, h => CH.but h hbut | 8, hj, _ => absurd rfl hj | 9, _, h => h | 10, _, h => CS.below h hbw | 11, _, h => h | 12, _, h => CS.below h hbw | 13, _, h => h | 14, _, h => CS.below h hbw | (_ + 15), _, h => h) ⟨va, vc, by rw [E3.out], hh7.1, fresh_of_own k1⟩
  ·intro A x W hA hR hdep D K hK
   have g12 := gv hA hdep 9 12
   simp only [DepF, nthF] at D
   obtain ⟨-, ⟨a7, c7, e7, hh7⟩, -⟩ := D
   have g5 : A.tmps[5]?.getD undef = .slice a7 t.kl c7 := by rw [← Array.getD_eq_getD_getElem?]; exact e7
   rw [e7] at hh7
   clear hdep hA e7
   obtain ⟨hWb, hWc, v1, v2, v3, hrow, k1, k2, k3⟩ := id hR
   have hbW : b0 < W.heap.size := (Array.getElem?_eq_some_iff.1 hrow).1
   have f9 := frozen_of_row W b0 6 _ _ hrow
   obtain ⟨u1, c1, e1, -, -⟩ := id k1
   subst e1
   have c9 := cell_of_heap hrow 6
   have hbut : But b0 W (W.setCell ⟨b0, 6, none⟩ (.slice a7 t.kl c7)) := (But.refl b0 _).set 6 _
   have hco : CO b0 W (.slice a7 t.kl c7) t.kl kz := ⟨a7, c7, rfl, hh7⟩
   have hrw : (W.setCell ⟨b0, 6, none⟩ (.slice a7 t.kl c7)).heap[b0]? = some (.cells #[.int .i64 t.k, .int .i64 t.d, .int .i64 t.f, .int .i64 t.p, .int .u32 t.l, .int .i64 t.i, .slice a7 t.kl c7, v2, v3] 26 (0, 0)) := heap_setCell_same W b0 6 _ _ _ hrow
   go_simp
   exact hK undef _ ⟨hWb.setCell (Nat.le_refl b0) _, (heap_setCell_other W _ _ _ (show b0 + 1 ≠ b0 by omega)).trans hWc, _, _, _, hrw, hco.ch.but hbut, k2.but hbut, k3.but hbut⟩ (fun j u hj h => match j, hj, h with | 0, _, h => h | 1, _, h => CH.but h hbut | 2, _, h => CO.but h hbut | 3, _, h => h | 4, _, h => CH.but h hbut | 5, _, h => CO.but h hbut | 6, _, h => h | 7, _, h => CH.but h hbut | 8, _, h => CO.but h hbut | 9, _, h => h | 10, hj, _ => absurd rfl hj | 11, _, h => h | 12, _, h => CS.set h (by decide) | 13, _, h => h | 14, _, h => CS.set h (by decide) | (_ + 15), _, h => h) ⟨_, _, hrw, rfl, hco.but hbut⟩
  ·intro A x W hA hR hdep D K hK
   have g13 := gv hA hdep 11 13
   simp only [DepF, nthF] at D
   obtain ⟨-, ⟨a7, c7, e7, hh7⟩, -⟩ := D
   have g8 : A.tmps[8]?.getD undef = .slice a7 t.sl c7 := by rw [← Array.getD_eq_getD_getElem?]; exact e7
   rw [e7] at hh7
   clear hdep hA e7
   obtain ⟨hWb, hWc, v1, v2, v3, hrow, k1, k2, k3⟩ := id hR
   have hbW : b0 < W.heap.size := (Array.getElem?_eq_some_iff.1 hrow).1
   have f9 := frozen_of_row W b0 7 _ _ hrow
   obtain ⟨u2, c2, e2, -, -⟩ := id k2
   subst e2
   have c9 := cell_of_heap hrow 7
   have hbut : But b0 W (W.setCell ⟨b0, 7, none⟩ (.slice a7 t.sl c7)) := (But.refl b0 _).set 7 _
   have hco : CO b0 W (.slice a7 t.sl c7) t.sl z1 := ⟨a7, c7, rfl, hh7⟩
   have hrw : (W.setCell ⟨b0, 7, none⟩ (.slice a7 t.sl c7)).heap[b0]? = some (.cells #[.int .i64 t.k, .int .i64 t.d, .int .i64 t.f, .int .i64 t.p, .int .u32 t.l, .int .i64 t.i, v1, .slice a7 t.sl c7, v3] 26 (0, 0)) := heap_setCell_same W b0 7 _ _ _ hrow
   go_simp
   exact hK undef _ ⟨hWb.setCell (Nat.le_refl b0) _, (heap_setCell_other W _ _ _ (show b0 + 1 ≠ b0 by omega)).trans hWc, _, _, _, hrw, k1.but hbut, hco.ch.but hbut, k3.but hbut⟩ (fun j u hj h => match j, hj, h with | 0, _, h => h | 1, _, h => CH.but h hbut | 2, _, h => CO.but h hbut | 3, _, h => h | 4, _, h => CH.but h hbut | 5, _, h => CO.but h hbut | 6, _, h => h | 7, _, h => CH.but h hbut | 8, _, h => CO.but h hbut | 9, _, h => h | 10, _, h => CS.set h (by decide) | 11, _, h => h | 12, hj, _ => absurd rfl hj | 13, _, h => h | 14, _, h => CS.set h (by decide) | (_ + 15), _, h => h) ⟨_, _, hrw, rfl, hco.but hbut⟩
  ·intro A x W hA hR hdep D K hK
   have g14 := gv hA hdep 13 14
   simp only [DepF, nthF] at D
   obtain ⟨-, ⟨a7, c7, e7, hh7⟩, -⟩ := D
   have g11 : A.tmps[11]?.getD undef = .slice a7 t.pl c7 := by rw [← Array.getD_eq_getD_getElem?]; exact e7
   rw [e7] at hh7
   clear hdep hA e7
   obtain ⟨hWb, hWc, v1, v2, v3, hrow, k1, k2, k3⟩ := id hR
   have hbW : b0 < W.heap.size := (Array.getElem?_eq_some_iff.1 hrow).1
   have f9 := frozen_of_row W b0 8 _ _ hrow
   obtain ⟨u3, c3, e3, -, -⟩ := id k3
   subst e3
   have c9 := cell_of_heap hrow 8
   have hbut : But b0 W (W.setCell ⟨b0, 8, none⟩ (.slice a7 t.pl c7)) := (But.refl b0 _).set 8 _
   have hco : CO b0 W (.slice a7 t.pl c7) t.pl z2 := ⟨a7, c7, rfl, hh7⟩
   have hrw : (W.setCell ⟨b0, 8, none⟩ (.slice a7 t.pl c7)).heap[b0]? = some (.cells #[.int .i64 t.k, .int .i64 t.d, .int .i64 t.f, .int .i64 t.p, .int .u32 t.l, .int .i64 t.i, v1, v2, .slice a7 t.pl c7] 26 (0, 0)) := heap_setCell_same W b0 8 _ _ _ hrow
   go_simp
   exact hK undef _ ⟨hWb.setCell (Nat.le_refl b0) _, (heap_setCell_other W _ _ _ (show b0 + 1 ≠ b0 by omega)).trans hWc, _, _, _, hrw, k1.but hbut, k2.but hbut, hco.ch.but hbut⟩ (fun j u hj h => match j, hj, h with | 0, _, h => h | 1, _, h => CH.but h hbut | 2, _, h => CO.but h hbut | 3, _, h => h | 4, _, h => CH.but h hbut | 5, _, h => CO.but h hbut | 6, _, h => h | 7, _, h => CH.but h hbut | 8, _, h => CO.but h hbut | 9, _, h => h | 10, _, h => CS.set h (by decide) | 11, _, h => h | 12, _, h => CS.set h (by decide) | 13, _, h => h | 14, hj, _ => absurd rfl hj | (_ + 15), _, h => h) ⟨_, _, hrw, rfl, hco.but hbut⟩
 intro x W hR hall
 obtain ⟨-, -, -, -, -, -, s1, s2, s3, -⟩ := hall
 change CS b0 6 t.kl kz W at s1
 change CS b0 7 t.sl z1 W at s2
 change CS b0 8 t.pl z2 W at s3
 obtain ⟨hWb, hWc, v1, v2, v3, hrow, -, -, -⟩ := hR
 obtain ⟨q1, u1, r1, w1, ⟨a1, c1, rfl, o1⟩⟩ := s1
 obtain ⟨q2, u2, r2, w2, ⟨a2, c2, rfl, o2⟩⟩ := s2
 obtain ⟨q3, u3, r3, w3, ⟨a3, c3, rfl, o3⟩⟩ := s3
 rw [hrow] at r1 r2 r3
 simp only [Option.some.injEq, Obj.cells.injEq, and_true] at r1 r2 r3
 subst r1
 subst r2
 subst r3
 obtain rfl : v1 = .slice a1 t.kl c1 := by simpa using w1
 obtain rfl : v2 = .slice a2 t.sl c2 := by simpa using w2
 obtain rfl : v3 = .slice a3 t.pl c3 := by simpa using w3
 refine thenTail_nil ?_
 simp only [layS, Act.put, List.setIfInBounds_toArray, List.set_cons_zero, List.set_cons_succ]
 have HRC3 := hid hWc
 have HB3 := hid hWb
 have HR3 := hid hrow
 have HO1 := hid o1
 have HO2 := hid o2
 have HO3 := hid o3
 generalize x 4 = x4 at *
 generalize x 5 = x5 at *
 generalize x 7 = x7 at *
 generalize x 8 = x8 at *
 generalize x 10 = x10 at *
 generalize x 11 = x11 at *
 clear w1 w2 w3 o1 o2 o3 hWb hWc hrow hR0
 go_wp2_with (first | ((with_reducible show wpList _ _ _ (Oper.mk _ (Op.load 26 _) _ _ _ _ :: _) _ _); refine wpList_load_row rfl 26 _ rfl b0 rfl _ _ _ _ HR3.out Try.underlying26 rfl (by kernel_rfl) ?_) | ((with_reducible show wpList _ _ _ (Oper.mk none (Op.store 26 _ _) _ _ _ _ :: _) _ _); refine wpList_store_row rfl 26 _ _ rfl (b0 + 1) #[.int .i64 t.k, .int .i64 t.d, .int .i64 t.f, .int .i64 t.p, .int .u32 t.l, .int .i64 t.i, .slice a1 t.kl c1, .slice a2 t.sl c2, .slice a3 t.pl c3] rfl rfl 26 _ HRC3.out (by kernel_rfl) rfl (by simp [Value.oneCell']) ?_))
 exact bodyPost_ret (results_cell_row rfl _ _ _ _ _ _ _ rfl (setRow_heap _ _ _ _ _ _ HRC3.out) Try.underlying26 rfl (by kernel_rfl)) rfl (by
  rw [hb0]
  have hko : ∀ {y : Value} {z : List Int}, OwnB (b0 + 2) W y z → OwnB b0 (W.setRow (b0 + 1) #[.int .i64 t.k, .int .i64 t.d, .int .i64 t.f, .int .i64 t.p, .int .u32 t.l, .int .i64 t.i, .slice a1 t.kl c1, .slice a2 t.sl c2, .slice a3 t.pl c3]) y z := fun {y z} h => (h.kb (KB.of_but ((But.refl (b0 + 1) _).setRow _) (Nat.zero_le _) (Nat.zero_le _) HRC3.out (by decide))).le (by omega)
  exact ⟨_, rfl, ⟨a1, c1, a2, c2, a3, c3, rfl, hko HO1.out, hko HO2.out, hko HO3.out⟩, below_setRow HB3.out (by omega) _⟩)
theorem callR_len {big : Bool} {bs kz ds : List Int} {la : Bool} {o : Int} (h : 1 ≤ o ∧ o ≤ (mB big : Nat)) : ((callR big bs kz la o ds).length : Int) = o := by
 unfold callR
 rw [List.length_take, outZ_length]
 omega
theorem TreeV.outN_ok {t : TreeV} (h : t.validE = 0) (rt : Bool) : 1 ≤ t.outN rt ∧ t.outN rt ≤ (mB t.big : Nat) := by
 have hmb := TreeV.mB_big h
 obtain ⟨-, d1, d2, d3, d4, -⟩ := TreeV.valid_facts h
 cases rt
 ·show 1 ≤ t.i ∧ t.i ≤ _; omega
 ·show 1 ≤ t.d ∧ t.d ≤ _; omega
theorem TreeV.node_lenE {t : TreeV} (h : t.validE = 0) (kz z1 z2 : List Int) (row i : Nat) (la rt : Bool) (d : List Int) : ((t.node kz z1 z2 row i la rt d).length : Int) = t.outN rt := callR_len (TreeV.outN_ok h rt)
theorem TreeV.rowZ_nth (t : TreeV) (kz z1 z2 : List Int) (row : Nat) (rt : Bool) (L : List (List Int)) {m i : Nat} (h : i < m) : nthL (t.rowZ kz z1 z2 row rt L m) i = t.node kz z1 z2 row i (decide (i + 1 = L.length)) rt (nthL L i) := by
 simp [nthL, TreeV.rowZ, List.getD_eq_getElem?_getD, h]
theorem TreeV.leaf_len {t : TreeV} (h : t.validE = 0) (kz z1 z2 zs : List Int) {k : Nat} (hk : k < (t.leafZ kz z1 z2 zs).length) : ((nthL (t.leafZ kz z1 z2 zs) k).length : Int) = t.i := by
 unfold TreeV.leafZ at hk ⊢
 rw [TreeV.rowZ_length] at hk
 rw [TreeV.rowZ_nth _ _ _ _ _ _ _ hk]
 exact TreeV.node_lenE h ..
theorem TreeV.top_len {t : TreeV} (h : t.validE = 0) (kz z1 z2 : List Int) {L0 : List (List Int)} {R : Nat} (hT : t.topAt kz z1 z2 L0 R) : (t.lvlZ kz z1 z2 L0 R).length = 1 ∧ ((nthL (t.lvlZ kz z1 z2 L0 R) 0).length : Int) = t.d := by
 obtain ⟨h1, h2, -⟩ := hT
 obtain ⟨r, rfl⟩ : ∃ r, R = r + 1 := ⟨R - 1, by omega⟩
 rw [Nat.add_sub_cancel] at h2
 have hu : (t.upZ (r + 1) (t.lvlZ kz z1 z2 L0 r)).length = 1 := by unfold TreeV.upZ; rw [if_pos h2]; rfl
 show (t.rowZ _ _ _ _ _ _ _).length = 1 ∧ ((nthL (t.rowZ _ _ _ _ _ _ _) 0).length : Int) = t.d
 rw [TreeV.rowZ_length, TreeV.rowZ_nth _ _ _ _ _ _ _ (show 0 < (t.upZ (r + 1) (t.lvlZ kz z1 z2 L0 r)).length by omega), h2]
 exact ⟨hu, TreeV.node_lenE h ..⟩
theorem TreeV.dig_len {t : TreeV} (h : t.validE = 0) (hl : 0 ≤ t.l ∧ t.l ≤ 4294967295) (kz z1 z2 zs : List Int) (hn : zs.length ≤ 4194304) : ((t.digZ kz z1 z2 zs).length : Int) = t.d := by
 have hL := TreeV.leafZ_facts h hl kz z1 z2 zs
 have hT := top_rows (err_small h hn) kz z1 z2 (leafZ_rows h hl kz z1 z2 zs) hL.2.2
 unfold TreeV.digZ
 rw [if_pos h]
 exact (TreeV.top_len h kz z1 z2 hT).2
end Go.Proofs.Ytchepcilkcdemaa
namespace Go.Proofs.Ytchepcilkcdemaa
open Go.ChangeShapes Go.WideShapes Go.ChangeAt Go.RowKit Go.Joins Go.Shelf Go.Maps
open Go.Lib (hid)
theorem pieces_flat {α : Type} (n : Nat) (L : List α) : ∀ m, (pieces n L m).flatten = L.take (m * n)
 | 0 => by simp [pieces]
 | m + 1 => by
  rw [pieces_succ, List.flatten_append, pieces_flat n L m, List.flatten_singleton, Nat.add_mul, Nat.one_mul, List.take_add]
  rfl
theorem cut_flat {n : Nat} (hn : 1 ≤ n) (zs : List Int) : (cutZ n zs).flatten = zs := by
 unfold cutZ
 split
 ·rename_i h; rw [h]; rfl
 ·rw [pieces_flat]
  have h := lt_cdiv (n := zs.length) (d := n) (j := cdiv zs.length n) hn
  exact List.take_of_length_le (by omega)
theorem flats_flat (f : Nat) (L : List (List Int)) : ∀ m, (flats f L m).flatten = (L.take (m * f)).flatten
 | 0 => by simp [flats]
 | m + 1 => by
  rw [flats_succ, List.flatten_append, flats_flat f L m, List.flatten_singleton, Nat.add_mul, Nat.one_mul, List.take_add, List.flatten_append]
  rfl
theorem TreeV.up_flat {t : TreeV} (h : t.validE = 0) (row : Nat) (L : List (List Int)) : (t.upZ row L).flatten = L.flatten := by
 unfold TreeV.upZ
 split
 ·simp
 ·rename_i hr
  have hf := TreeV.fn_pos h (row := row) (n := L.length) (by simpa using hr)
  rw [flats_flat]
  have h2 := lt_cdiv (n := L.length) (d := t.fn) (j := cdiv L.length t.fn) (by omega)
  rw [List.take_of_length_le (by omega)]
end Go.Proofs.Ytchepcilkcdemaa
