/- The digest of a message, by the program. No condition. -/
import Derived.Test.YtchepcilkcdemaaS35
import Derived.Test.YtchepcilkcdemaaS33
import Derived.Maps.AppendAt
set_option linter.all false
set_option maxRecDepth 100000
set_option maxHeartbeats 8000000
namespace Go.Proofs.Ytchepcilkcdemaa
open Go.ChangeShapes Go.WideShapes Go.ChangeAt Go.RowKit Go.Joins Go.Shelf Go.Maps
open Go.Lib (hid)
attribute [local go_sem] Oper.semAt_some
/-- What the leaves give. -/
def TreeV.leafZ (t : TreeV) (kz z1 z2 zs : List Int) : List (List Int) := t.rowZ kz z1 z2 0 false (cutZ t.ln zs) (cutZ t.ln zs).length
theorem TreeV.leafZ_facts {t : TreeV} (h : t.validE = 0) (hl : 0 ≤ t.l ∧ t.l ≤ 4294967295) (kz z1 z2 zs : List Int) : t.leafZ kz z1 z2 zs ≠ [] ∧ (t.leafZ kz z1 z2 zs).length ≤ zs.length + 1 ∧ ∀ z ∈ t.leafZ kz z1 z2 zs, z.length ≤ 64 := by
 have hln : 1 ≤ t.ln := by
  have := (TreeV.valid_facts h).2.2.2.2.2.2.2.2.1
  unfold TreeV.ln; omega
 have h1 := cutZ_len zs hln
 have h2 : (t.leafZ kz z1 z2 zs).length = (cutZ t.ln zs).length := TreeV.rowZ_length ..
 exact ⟨List.length_pos_iff.1 (by omega), by omega, fun z hz => TreeV.rowZ_item _ _ _ _ _ _ _ _ z hz⟩
theorem leaves_err (t : TreeV) (v : Value) (w : World) (h : t.validE ≠ 0) :
  Calls Try.prog 9 #[t.val, v] w fun e w' => e = .returned (.tuple #[.slice none 0 0, .int .i64 t.validE]) ∧ Below w.heap.size w w' := by
 obtain ⟨b0, hb0⟩ : ∃ b0, w.heap.size = b0 := ⟨_, rfl⟩
 have HVL := hid (valid_any t)
 have hbA : Below b0 w (w.alloc (.cells #[.int .i64 t.k, .int .i64 t.d, .int .i64 t.f, .int .i64 t.p, .int .u32 t.l, .int .i64 t.i, .slice t.ka t.kl t.kc, .slice t.sa t.sl t.sc, .slice t.pa t.pl t.pc] 26)) := by rw [← hb0]; exact (Below.refl _ _).alloc (Nat.le_refl _) _
 have hrA := World.alloc_heap_new w (.cells #[.int .i64 t.k, .int .i64 t.d, .int .i64 t.f, .int .i64 t.p, .int .u32 t.l, .int .i64 t.i, .slice t.ka t.kl t.kc, .slice t.sa t.sl t.sc, .slice t.pa t.pl t.pc] 26)
 rw [hb0] at hrA
 generalize t.validE = ev at *
 have hq : (ev != 0) = true := by rw [bne_iff_ne]; exact h
 clear h
 unfold TreeV.val
 go_enter Try.func9, Try.ntmps9
 go_upto_region 1 with (fail)
 generalize w.alloc (.cells #[.int .i64 t.k, .int .i64 t.d, .int .i64 t.f, .int .i64 t.p, .int .u32 t.l, .int .i64 t.i, .slice t.ka t.kl t.kc, .slice t.sa t.sl t.sc, .slice t.pa t.pl t.pc] 26) = wA at *
 go_wp2_with ((with_reducible show wpList _ _ _ (Oper.mk _ (Op.load 26 _) _ _ _ _ :: _) _ _); refine wpList_load_row rfl 26 _ rfl b0 rfl _ _ _ _ hrA Try.underlying26 rfl (by kernel_rfl) ?_)
 refine (HVL.out wA).mono ?_; rintro e w2 ⟨rfl, hb2⟩
 have HB2 := hid (hbA.trans (hb2.mono (by have := (Array.getElem?_eq_some_iff.1 hrA).1; omega)))
 clear hrA hbA hb2
 go_wp2
 go_ret2
 exact ⟨rfl, by rw [hb0]; exact HB2.out⟩
theorem hash_err (t : TreeV) (v : Value) (w : World) (h : t.validE ≠ 0) :
  Calls Try.prog 11 #[t.val, v] w fun e w' => e = .returned (.tuple #[.slice none 0 0, .int .i64 t.validE]) ∧ Below w.heap.size w w' := by
 obtain ⟨b0, hb0⟩ : ∃ b0, w.heap.size = b0 := ⟨_, rfl⟩
 have HLV := hid (fun W : World => leaves_err t v W h)
 have hbA : Below b0 w (w.alloc (.cells #[.int .i64 t.k, .int .i64 t.d, .int .i64 t.f, .int .i64 t.p, .int .u32 t.l, .int .i64 t.i, .slice t.ka t.kl t.kc, .slice t.sa t.sl t.sc, .slice t.pa t.pl t.pc] 26)) := by rw [← hb0]; exact (Below.refl _ _).alloc (Nat.le_refl _) _
 have hrA := World.alloc_heap_new w (.cells #[.int .i64 t.k, .int .i64 t.d, .int .i64 t.f, .int .i64 t.p, .int .u32 t.l, .int .i64 t.i, .slice t.ka t.kl t.kc, .slice t.sa t.sl t.sc, .slice t.pa t.pl t.pc] 26)
 rw [hb0] at hrA
 generalize t.validE = ev at *
 have hq : (ev != 0) = true := by rw [bne_iff_ne]; exact h
 clear h
 unfold TreeV.val
 go_enter Try.func11, Try.ntmps11
 go_upto_region 1 with (fail)
 generalize w.alloc (.cells #[.int .i64 t.k, .int .i64 t.d, .int .i64 t.f, .int .i64 t.p, .int .u32 t.l, .int .i64 t.i, .slice t.ka t.kl t.kc, .slice t.sa t.sl t.sc, .slice t.pa t.pl t.pc] 26) = wA at *
 go_wp2_with ((with_reducible show wpList _ _ _ (Oper.mk _ (Op.load 26 _) _ _ _ _ :: _) _ _); refine wpList_load_row rfl 26 _ rfl b0 rfl _ _ _ _ hrA Try.underlying26 rfl (by kernel_rfl) ?_)
 refine (HLV.out wA).mono ?_; rintro e w2 ⟨rfl, hb2⟩
 have HB2 := hid (hbA.trans (hb2.mono (by have := (Array.getElem?_eq_some_iff.1 hrA).1; omega)))
 clear hrA hbA hb2
 go_wp2
 go_ret2
 exact ⟨rfl, by rw [hb0]; exact HB2.out⟩
theorem hash_ok (t : TreeV) (kz z1 z2 zs : List Int) (v : Value) (w : World) (h : TreeOk t kz z1 z2 w) (hv : Hold w v zs) (hn : zs.length ≤ 4194304) :
  Calls Try.prog 11 #[t.val, v] w fun e w' => ∃ u, e = .returned (.tuple #[u, .int .i64 0]) ∧ (∃ R, t.topAt kz z1 z2 (t.leafZ kz z1 z2 zs) R ∧ OwnB w.heap.size w' u (nthL (t.lvlZ kz z1 z2 (t.leafZ kz z1 z2 zs) R) 0)) ∧ Below w.heap.size w w' := by
 obtain ⟨b0, hb0⟩ : ∃ b0, w.heap.size = b0 := ⟨_, rfl⟩
 have hL := TreeV.leafZ_facts h.v h.l kz z1 z2 zs
 have HL := hid hL
 have HT := hid h
 have HLV := hid (fun (W : World) (hb : Below b0 w W) => leaves_ok t kz z1 z2 zs v W (h.below (hb0 ▸ hb)) (hv.below (hb0 ▸ hb)) hn)
 have hbA : Below b0 w (w.alloc (.cells #[.int .i64 t.k, .int .i64 t.d, .int .i64 t.f, .int .i64 t.p, .int .u32 t.l, .int .i64 t.i, .slice t.ka t.kl t.kc, .slice t.sa t.sl t.sc, .slice t.pa t.pl t.pc] 26)) := by rw [← hb0]; exact (Below.refl _ _).alloc (Nat.le_refl _) _
 have hrA := World.alloc_heap_new w (.cells #[.int .i64 t.k, .int .i64 t.d, .int .i64 t.f, .int .i64 t.p, .int .u32 t.l, .int .i64 t.i, .slice t.ka t.kl t.kc, .slice t.sa t.sl t.sc, .slice t.pa t.pl t.pc] 26)
 rw [hb0] at hrA
 obtain ⟨va, vc, rfl, -, -⟩ := hv.slice
 clear h hv hL
 unfold TreeV.val
 unfold TreeV.leafZ at HL ⊢
 generalize t.rowZ kz z1 z2 0 false (cutZ t.ln zs) (cutZ t.ln zs).length = L0 at *
 go_enter Try.func11, Try.ntmps11
 go_upto_region 1 with (fail)
 generalize w.alloc (.cells #[.int .i64 t.k, .int .i64 t.d, .int .i64 t.f, .int .i64 t.p, .int .u32 t.l, .int .i64 t.i, .slice t.ka t.kl t.kc, .slice t.sa t.sl t.sc, .slice t.pa t.pl t.pc] 26) = wA at *
 go_wp2_with ((with_reducible show wpList _ _ _ (Oper.mk _ (Op.load 26 _) _ _ _ _ :: _) _ _); refine wpList_load_row rfl 26 _ rfl b0 rfl _ _ _ _ hrA Try.underlying26 rfl (by kernel_rfl) ?_)
 refine (HLV.out wA hbA).mono ?_; rintro e w2 ⟨lv, rfl, hlo, hb2⟩
 have hr2 := rowStay hrA hb2
 have hsA := (Array.getElem?_eq_some_iff.1 hrA).1
 have hB2 : Below b0 w w2 := hbA.trans (hb2.mono (by omega))
 have HF := hid (fold_ok t kz z1 z2 L0 lv w2 (HT.out.below (hb0 ▸ hB2)) hlo.hold HL.out.1 HL.out.2.2 (by have := HL.out.2.1; omega))
 obtain ⟨la, lc, rfl, -, -, -⟩ := hlo.hold
 have HB2 := hid hB2
 have hs2 := hb2.size
 clear hrA hbA hb2 hB2 hlo HLV
 go_wp2_with ((with_reducible show wpList _ _ _ (Oper.mk _ (Op.load 26 _) _ _ _ _ :: _) _ _); refine wpList_load_row rfl 26 _ rfl b0 rfl _ _ _ _ hr2 Try.underlying26 rfl (by kernel_rfl) ?_)
 refine HF.out.mono ?_; rintro e w3 ⟨u, rfl, ⟨R, hR, hO⟩, hb3⟩
 have HR := hid hR
 have HO := hid (hO.le (show b0 ≤ w2.heap.size by omega))
 have HB3 := hid (HB2.out.trans (hb3.mono (by omega)))
 clear hR hO hb3 hr2
 go_wp2
 go_ret2
 try rw [hb0]
 exact ⟨_, rfl, ⟨R, HR.out, HO.out⟩, HB3.out⟩
theorem same10_ok (zs : List Int) (u v : Value) (w : World) (hu : Hold w u zs) (hv : Hold w v zs) :
  Calls Try.prog 13 #[u, v] w fun e w' => e = .returned (.bool true) ∧ ∃ m, w' = w.drewN m := by
 have hl : (zs.length : Int) ≤ 9223372036854775807 := by obtain ⟨a, c, -, h1, h2⟩ := hu.slice; omega
 obtain ⟨a, cap, rfl, h⟩ := hu.holds8
 obtain ⟨a', cap', rfl, h'⟩ := hv.holds8
 clear hu hv
 by_cases h0 : zs = []
 ·subst h0
  clear h h'
  go_enter Try.func13, Try.ntmps13
  go_wp2_with fail
  go_loopw [5] (fun i wr => i = .int .i64 0 ∧ w = wr) (fun _ _ => 0)
  case atStart => exact ⟨rfl, rfl⟩
  case round =>
   obtain ⟨rfl, rfl⟩ := hrel
   go_wp2
   go_ret
   exact ⟨rfl, 0, rfl⟩
 ·obtain ⟨b, off, rfl, hb1, hb2⟩ := h.resolve_left h0
  obtain ⟨b', off', rfl, hb1', hb2'⟩ := h'.resolve_left h0
  have H2 := hid hb2
  have H2' := hid hb2'
  clear h h' hb2 hb2'
  go_enter Try.func13, Try.ntmps13
  go_wp2_with fail
  go_loopw [5] (fun i wr => ∃ (k n : Nat), i = .int .i64 k ∧ k ≤ zs.length ∧ wr = w.drewN n) (fun i _ => zs.length - (intOf i).toNat)
  case atStart => exact ⟨0, 0, rfl, Nat.zero_le _, rfl⟩
  case round =>
   obtain ⟨k, n, rfl, hk, rfl⟩ := hrel
   by_cases hlt : k < zs.length
   ·have e1 : w.cell? ⟨b, off + k, none⟩ = some (.int .u8 (nthz zs k)) := H2.out k hlt
    have e2 : w.cell? ⟨b', off' + k, none⟩ = some (.int .u8 (nthz zs k)) := H2'.out k hlt
    go_wp2
    go_quiet (fail)
    go_wp2
    exact ⟨⟨k + 1, n + nq, by go_num, by omega, rfl⟩, by simp [intOf]; omega⟩
   ·obtain rfl : k = zs.length := by omega
    go_wp2
    go_ret
    exact ⟨rfl, n, rfl⟩
theorem below_drewN (w : World) (m : Nat) : Below w.heap.size w (w.drewN m) := by
 induction m with
 | zero => exact Below.refl _ _
 | succ m ih => exact ih.drew
theorem copied_ok (zs : List Int) (v : Value) (w : World) (h : Hold w v zs) (hn : zs.length ≤ 70368744177664) :
  Calls Try.prog 15 #[v] w fun e w' => ∃ u, e = .returned u ∧ OwnB w.heap.size w' u zs ∧ Below w.heap.size w w' := by
 obtain ⟨i0, hi, hz0, hz1, hz2⟩ := info_parts info_u8
 have HS := hid h.src
 have HB := hid h.1
 obtain ⟨a, c, rfl, -, -⟩ := h.slice
 clear h
 go_enter Try.func15, Try.ntmps15
 go_wp2_with (at_builtin; refine wpList_append_now rfl _ _ _ rfl w w.heap.size rfl (Below.refl _ _) 5 i0 (.int .u8 0) 1 Try.underlying24 hi hz0 hz1 hz2 rfl _ 0 [] rfl (World.ownsRow_nil _ _ _ _) _ _ _ rfl HS.out (by unfold maxLen; omega) (by omega) ?_; intro v' w' hown' hb')
 go_ret
 rw [Nat.zero_add, List.nil_append] at hown'
 exact ⟨_, rfl, ⟨HB.out, fresh_of_own hown'⟩, hb'⟩
/-- What stands behind wide bytes. -/
def tailZ (m : Nat) : List Int := (List.range m).map fun i => 200 + ((i % 7 : Nat) : Int)
theorem tailZ_succ (m : Nat) : tailZ (m + 1) = tailZ m ++ [200 + ((m % 7 : Nat) : Int)] := by simp [tailZ, List.range_succ]
theorem tailZ_length (m : Nat) : (tailZ m).length = m := by simp [tailZ]
theorem tailZ_bounds (m : Nat) : ∀ z ∈ tailZ m, 0 ≤ z ∧ z ≤ 255 := fun z hz => by
 obtain ⟨i, -, rfl⟩ := List.mem_map.1 hz
 have := Nat.mod_lt i (show 0 < 7 by omega)
 omega
theorem src_new (W : World) (u : Value) (T : TypeId) (hu : u.oneCell' = true) : SrcIs (W.alloc (.cells #[u] T)) (.slice (some ⟨W.heap.size, 0, none⟩) 1 1) 1 [u] :=
 ⟨rfl, fun x hx => by rw [List.mem_singleton.1 hx]; exact hu, .inr ⟨_, _, rfl, cell_one_new W u T⟩⟩
theorem fresh_block {B : Nat} {w : World} {v : Value} {z : List Int} (h : Fresh B w v z) : ∀ g, v.ownBlock = some g → B ≤ g ∧ g < w.heap.size := by
 intro g hg
 rcases h with ⟨-, rfl⟩ | ⟨g', cap, cur, rfl, h1, h2, -⟩
 ·cases hg
 ·simp only [Value.ownBlock, Option.some.injEq] at hg
  subst hg
  exact ⟨h1, (Array.getElem?_eq_some_iff.1 h2).1⟩
theorem spare_below {B : Nat} {w w' : World} {v : Value} {z : List Int} (h : Spare (fun k => v.ownBlock ≠ some k) w w') (ho : OwnB B w v z) (hB : B ≤ w.heap.size) : Below B w w' :=
 ⟨h.os, h.tape, h.output, h.size, fun k hk => h.block k (by omega) fun e => by have := (fresh_block ho.2 k e).1; omega⟩
/-- Bytes of one's own that came later stay. -/
theorem ownB_spare {B1 B2 : Nat} {w0 w w' : World} {v y : Value} {z zy : List Int} (h : Spare (fun k => v.ownBlock ≠ some k) w w') (ho : OwnB B1 w0 v z) (hy : OwnB B2 w y zy) (hB : w0.heap.size ≤ B2) : OwnB B2 w' y zy := by
 refine ⟨hy.1, ?_⟩
 rcases hy.2 with h2 | ⟨g, cap, cur, rfl, h1, h2, h3⟩
 ·exact .inl h2
 ·refine .inr ⟨g, cap, cur, rfl, h1, ?_, h3⟩
  rw [h.block g (Array.getElem?_eq_some_iff.1 h2).1 fun e => by have := (fresh_block ho.2 g e).2; omega]
  exact h2
end Go.Proofs.Ytchepcilkcdemaa
