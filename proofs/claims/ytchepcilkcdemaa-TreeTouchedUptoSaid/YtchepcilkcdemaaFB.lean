/- tree.Fold of leaves' outputs; a call whose answer the document fixes. No condition. -/
import Derived.Test.YtchepcilkcdemaaFA
import Derived.Test.YtchepcilkcdemaaB06
set_option linter.all false
set_option maxRecDepth 100000
set_option maxHeartbeats 8000000
namespace Go.Proofs.Ytchepcilkcdemaa
open Go.ChangeShapes Go.WideShapes Go.ChangeAt Go.RowKit Go.Joins Go.Shelf Go.Maps
open Go.Lib (hid)
attribute [local go_sem] Oper.semAt_some
def plainT : TreeV := ⟨2, 32, 2, 9, 2, 8, none, 0, 0, none, 0, 0, none, 0, 0⟩
theorem plain_ok (w : World) : Calls Try.prog 26 #[] w fun e w' => e = .returned plainT.val ∧ Below w.heap.size w w' := by
 go_enter Try.func26, Try.ntmps26
 go_wp2_with ((with_reducible show wpList _ _ _ (Oper.mk none (Op.store 26 _ _) _ _ _ _ :: _) _ _); refine wpList_store_row rfl 26 _ _ rfl w.heap.size #[.int .i64 2, .int .i64 32, .int .i64 2, .int .i64 9, .int .u32 2, .int .i64 8, .slice none 0 0, .slice none 0 0, .slice none 0 0] rfl rfl 26 _ (World.alloc_heap_new _ _) (by kernel_rfl) rfl (by simp [Value.oneCell']) ?_)
 exact bodyPost_ret (results_cell_row rfl _ _ _ _ _ _ _ rfl (setRow_heap _ _ _ _ _ _ (World.alloc_heap_new _ _)) Try.underlying26 rfl (by kernel_rfl)) rfl ⟨rfl, below_setRow ((Below.refl _ _).alloc (Nat.le_refl _) _) (Nat.le_refl _) _⟩
theorem alive_ok (w : World) : Calls Try.prog 8 #[] w fun e w' => e = .returned (.bool true) ∧ Below w.heap.size w w' := by
 have hv : plainT.validE = 0 := by decide
 have HPL := hid (plain_ok w)
 have hh := fun (W : World) => hash_any plainT [] [] [] [] (.slice none 0 0) W ⟨by decide, by decide⟩ ⟨fun z hz => by simp at hz, .inl ⟨rfl, rfl⟩⟩ ⟨fun z hz => by simp at hz, .inl ⟨rfl, rfl⟩⟩ ⟨fun z hz => by simp at hz, .inl ⟨rfl, rfl⟩⟩ ⟨fun z hz => by simp at hz, .inl ⟨rfl, rfl⟩⟩ (by simp)
 have hd := TreeV.dig_len hv ⟨by decide, by decide⟩ [] [] [] [] (by simp)
 unfold DigIs at hh
 rw [hv] at hh
 obtain ⟨Z, hZ⟩ : ∃ Z, plainT.digZ [] [] [] [] = Z := ⟨_, rfl⟩
 rw [hZ] at hh hd
 have HH := hid hh
 have hz : Z.length = 32 := by have : plainT.d = 32 := rfl; omega
 have HZ := hid hz
 clear hv hh hd hZ hz
 go_enter Try.func8, Try.ntmps8
 go_wp2_with fail
 refine HPL.out.mono ?_; rintro e w1 ⟨rfl, hb1⟩
 have HB1 := hid hb1
 have hs1 := hb1.size
 clear hb1
 go_wp2_with fail
 refine (HH.out w1).mono ?_; rintro e w2 ⟨u, rfl, hu, hb2⟩
 have HB2 := hid (HB1.out.trans (hb2.mono hs1))
 obtain ⟨a, c, rfl, -, -⟩ := hu.hold.slice
 rw [HZ.out]
 clear hu hb2
 go_wp2
 go_ret
 exact ⟨rfl, HB2.out⟩
theorem foldT_ok (t : TreeV) (kz z1 z2 : List Int) (L0 : List (List Int)) (total : Nat) (v : Value) (w : World) (h : TreeOk t kz z1 z2 w) (hv : ListH w v L0) (he : t.err total = 0) (ht : (total : Int) ≤ 18446744073709551615) (h0 : L0.length = lvs total t.ln) (h1 : ∀ k, k < L0.length → ((nthL L0 k).length : Int) = t.i) (h2 : ∀ z ∈ L0, z.length ≤ 64) (hn : L0.length ≤ 8388608) :
  Calls Try.prog 12 #[t.val, .int .u64 total, v] w fun e w' => ∃ u, e = .returned (.tuple #[u, .int .i64 0]) ∧ (∃ R, t.topAt kz z1 z2 L0 R ∧ OwnB w.heap.size w' u (nthL (t.lvlZ kz z1 z2 L0 R) 0)) ∧ Below w.heap.size w w' := by
 obtain ⟨b0, hb0⟩ : ∃ b0, w.heap.size = b0 := ⟨_, rfl⟩
 have hvl := valid_any t
 simp only [h.v] at hvl
 have HVL := hid hvl
 have HLV := hid (fun W : World => shLeaves_ok t h.l total ht he W)
 have hne : L0 ≠ [] := List.length_pos_iff.1 (by rw [h0]; unfold lvs; omega)
 have HFO := hid (fun (W : World) (hb : Below b0 w W) => fold_ok t kz z1 z2 L0 v W (h.below (hb0 ▸ hb)) (hv.below (hb0 ▸ hb)) hne h2 hn)
 have HV := hid hv
 have H1 := hid h1
 rw [← h0] at HLV
 obtain ⟨va, vc, rfl, hvc1, hvc2, -⟩ := id hv
 have hbA : Below b0 w (w.alloc (.cells #[.int .i64 t.k, .int .i64 t.d, .int .i64 t.f, .int .i64 t.p, .int .u32 t.l, .int .i64 t.i, .slice t.ka t.kl t.kc, .slice t.sa t.sl t.sc, .slice t.pa t.pl t.pc] 26)) := by rw [← hb0]; exact (Below.refl _ _).alloc (Nat.le_refl _) _
 have hrA := World.alloc_heap_new w (.cells #[.int .i64 t.k, .int .i64 t.d, .int .i64 t.f, .int .i64 t.p, .int .u32 t.l, .int .i64 t.i, .slice t.ka t.kl t.kc, .slice t.sa t.sl t.sc, .slice t.pa t.pl t.pc] 26)
 rw [hb0] at hrA
 have hju : IntKind.u64.wrap (L0.length : Int) = (L0.length : Int) := u64_wrap_id _ (by omega) (by omega)
 have hnn : ((L0.length : Int) != (L0.length : Int)) = false := by simp
 have hLi : (L0.length : Int) ≤ 8388608 := by omega
 clear h hv he ht h0 h1 h2 hvl hne
 unfold TreeV.val at *
 go_enter Try.func12, Try.ntmps12
 go_upto_region 1 with (fail)
 generalize w.alloc (.cells #[.int .i64 t.k, .int .i64 t.d, .int .i64 t.f, .int .i64 t.p, .int .u32 t.l, .int .i64 t.i, .slice t.ka t.kl t.kc, .slice t.sa t.sl t.sc, .slice t.pa t.pl t.pc] 26) = wA at *
 go_wp2_with ((with_reducible show wpList _ _ _ (Oper.mk _ (Op.load 26 _) _ _ _ _ :: _) _ _); refine wpList_load_row rfl 26 _ rfl b0 rfl _ _ _ _ hrA Try.underlying26 rfl (by kernel_rfl) ?_)
 refine (HVL.out wA).mono ?_; rintro e w2 ⟨rfl, hb2⟩
 have hr2 := rowStay hrA hb2
 have HB2 := hid (hbA.trans (hb2.mono (by have := (Array.getElem?_eq_some_iff.1 hrA).1; omega)))
 have hs2 : b0 < w2.heap.size := (Array.getElem?_eq_some_iff.1 hr2).1
 clear hrA hbA hb2
 go_wp2_with ((with_reducible show wpList _ _ _ (Oper.mk _ (Op.load 26 _) _ _ _ _ :: _) _ _); refine wpList_load_row rfl 26 _ rfl b0 rfl _ _ _ _ hr2 Try.underlying26 rfl (by kernel_rfl) ?_)
 refine (HLV.out w2).mono ?_; rintro e w3 ⟨rfl, hb3⟩
 have hr3 := rowStay hr2 hb3
 have HR3 := hid hr3
 have HB3 := hid (HB2.out.trans (hb3.mono (by omega)))
 have hs3 : b0 < w3.heap.size := (Array.getElem?_eq_some_iff.1 hr3).1
 clear hr2 hb3 hr3 HB2
 go_wp2_with fail
 go_loopw [35] (fun i wr => ∃ k : Nat, i = .int .i64 (k : Nat) ∧ k ≤ L0.length ∧ Below w3.heap.size w3 wr) (fun i _ => L0.length - (intOf i).toNat)
 case atStart => exact ⟨0, rfl, Nat.zero_le _, Below.refl _ _⟩
 case round =>
  obtain ⟨k, rfl, hk, hb⟩ := hrel
  by_cases hlt : k < L0.length
  case pos =>
   have hlt2 : (k : Int) < L0.length := by omega
   obtain ⟨xa', xc', e, -, -, h3⟩ := (HV.out.below (hb0 ▸ HB3.out)).below hb
   obtain ⟨g, off, rfl, h4, h5⟩ := h3.resolve_left (fun e => by rw [e] at hlt; simp at hlt)
   simp only [Value.slice.injEq] at e
   obtain ⟨rfl, -, rfl⟩ := e
   obtain ⟨xx, hxx, hxh⟩ := h5 k hlt
   obtain ⟨ya, yc, rfl, -, -⟩ := hxh.slice
   have hq : (((nthL L0 k).length : Int) != t.i) = false := by rw [H1.out k hlt]; simp
   have c5 : wr.cell? ⟨b0, 5, none⟩ = some (.int .i64 t.i) := cell_of_heap (rowStay HR3.out hb) 5
   have hs : b0 < wr.heap.size := by have := hb.size; omega
   have HB := hid hb
   clear hb hxh h3 h5
   go_wp2
   exact ⟨⟨k + 1, by go_num, by omega, HB.out⟩, by simp [intOf]; omega⟩
  obtain rfl : k = L0.length := by omega
  have hrr := rowStay HR3.out hb
  have HB := hid (HB3.out.trans (hb.mono (show b0 ≤ w3.heap.size by omega)))
  have hs : b0 < wr.heap.size := by have := hb.size; omega
  clear hb
  go_wp2_with ((with_reducible show wpList _ _ _ (Oper.mk _ (Op.load 26 _) _ _ _ _ :: _) _ _); refine wpList_load_row rfl 26 _ rfl b0 rfl _ _ _ _ hrr Try.underlying26 rfl (by kernel_rfl) ?_)
  refine (HFO.out wr HB.out).mono ?_; rintro e w9 ⟨u, rfl, ⟨R, hR, hu⟩, hb9⟩
  have HTOP := hid hR
  have HU := hid (hu.le (show b0 ≤ wr.heap.size by omega))
  have HB9 := hid (HB.out.trans (hb9.mono (show b0 ≤ wr.heap.size by omega)))
  clear hR hu hb9 hrr
  go_wp2
  go_ret2
  exact ⟨_, rfl, ⟨R, HTOP.out, by rw [hb0]; exact HU.out⟩, by rw [hb0]; exact HB9.out⟩
end Go.Proofs.Ytchepcilkcdemaa
