/- tree.Fold of leaves' outputs; a call whose answer the document fixes. No condition. -/
import Derived.Test.YtchepcilkcdemaaS38
import Derived.Test.YtchepcilkcdemaaS05
import Derived.Test.YtchepcilkcdemaaS42
set_option linter.all false
set_option maxRecDepth 100000
set_option maxHeartbeats 8000000
namespace Go.Proofs.Ytchepcilkcdemaa
open Go.ChangeShapes Go.WideShapes Go.ChangeAt Go.RowKit Go.Joins Go.Shelf Go.Maps
open Go.Lib (hid)
attribute [local go_sem] Oper.semAt_some
def plainT : TreeV := ⟨2, 32, 2, 9, 2, 8, none, 0, 0, none, 0, 0, none, 0, 0⟩
theorem plain_ok (w : World) : Calls Try.prog 26 #[] w fun e w' => e = .returned plainT.val ∧ Below w.heap.size w w' := by
 go_enter Try.func26, Try.ntmps26
 go_wp2_with ((with_reducible show wpList _ _ _ (Oper.mk none (Op.store 26 _ _) _ _ _ _ :: _) _ _); refine wpList_store_row rfl 26 _ _ rfl w.heap.size #[.int .i64 2, .int .i64 32, .int .i64 2, .int .i64 9, .int .u32 2, .int .i64 8, .slice none 0 0, .slice none 0 0, .slice none 0 0] rfl rfl 26 _ (World.alloc_heap_new _ _) (by kernel_rfl) rfl (by simp [Value.oneCell']) ?_)
 exact bodyPost_ret (results_cell_row rfl _ _ _ _ _ _ _ rfl (setRow_heap _ _ _ _ _ _ (World.alloc_heap_new _ _)) Try.underlying26 rfl (by kernel_rfl)) rfl ⟨rfl, below_setRow ((Below.refl _ _).alloc (Nat.le_refl _) _) (Nat.le_refl _) _⟩
theorem alive_ok (w : World) : Calls Try.prog 8 #[] w fun e w' => e = .returned (.bool true) ∧ Below w.heap.size w w' := by
 have hv : plainT.validE = 0 := by decide
 have HPL := hid (plain_ok w)
 have hh := fun (W : World) => hash_any plainT [] [] [] [] (.slice none 0 0) W ⟨by decide, by decide⟩ ⟨fun z hz => by simp at hz, .inl ⟨rfl, rfl⟩⟩ ⟨fun z hz => by simp at hz, .inl ⟨rfl, rfl⟩⟩ ⟨fun z hz => by simp at hz, .inl ⟨rfl, rfl⟩⟩ ⟨fun z hz => by simp at hz, .inl ⟨rfl, rfl⟩⟩ (by simp)
 have hd := TreeV.dig_len hv ⟨by decide, by decide⟩ [] [] [] [] (by simp)
 unfold DigIs at hh
 rw [hv] at hh
 obtain ⟨Z, hZ⟩ : ∃ Z, plainT.digZ [] [] [] [] = Z := ⟨_, rfl⟩
 rw [hZ] at hh hd
 have HH := hid hh
 have hz : Z.length = 32 := by have : plainT.d = 32 := rfl; omega
 have HZ := hid hz
 clear hv hh hd hZ hz
 go_enter Try.func8, Try.ntmps8
 go_wp2_with fail
 refine HPL.out.mono ?_; rintro e w1 ⟨rfl, hb1⟩
 have HB1 := hid hb1
 have hs1 := hb1.size
 clear hb1
 go_wp2_with fail
 refine (HH.out w1).mono ?_; rintro e w2 ⟨u, rfl, hu, hb2⟩
 have HB2 := hid (HB1.out.trans (hb2.mono hs1))
 obtain ⟨a, c, rfl, -, -⟩ := hu.hold.slice
 rw [HZ.out]
 clear hu hb2
 go_wp2
 go_ret
 exact ⟨rfl, HB2.out⟩
theorem foldT_ok (t : TreeV) (kz z1 z2 : List Int) (L0 : List (List Int)) (total : Nat) (v : Value) (w : World) (h : TreeOk t kz z1 z2 w) (hv : ListH w v L0) (he : t.err total = 0) (ht : (total : Int) ≤ 18446744073709551615) (h0 : L0.length = lvs total t.ln) (h1 : ∀ k, k < L0.length → ((nthL L0 k).length : Int) = t.i) (h2 : ∀ z ∈ L0, z.length ≤ 64) (hn : L0.length ≤ 8388608) :
  Calls Try.prog 12 #[t.val, .int .u64 total, v] w fun e w' => ∃ u, e = .returned (.tuple #[u, .int .i64 0]) ∧ (∃ R, t.topAt kz z1 z2 L0 R ∧ OwnB w.heap.size w' u (nthL (t.lvlZ kz z1 z2 L0 R) 0)) ∧ Below w.heap.size w w' := by
 obtain ⟨b0, hb0⟩ : ∃ b0, w.heap.size = b0 := ⟨_, rfl⟩
 have hvl := valid_any t
 simp only [h.v] at hvl
 have HVL := hid hvl
 have HLV := hid (fun W : World => shLeaves_ok t h.l total ht he W)
 have hne : L0 ≠ [] := List.length_pos_iff.1 (by rw [h0]; unfold lvs; omega)
 have HFO := hid (fun (W : World) (hb : Below b0 w W) => fold_ok t kz z1 z2 L0 v W (h.below (hb0 ▸ hb)) (hv.below (hb0 ▸ hb)) hne h2 hn)
 have HV := hid hv
 have H1 := hid h1
 rw [← h0] at HLV
 obtain ⟨va, vc, rfl, hvc1, hvc2, -⟩ := id hv
 have hbA : Below b0 w (w.alloc (.cells #[.int .i64 t.k, .int .i64 t.d, .int .i64 t.f, .int .i64 t.p, .int .u32 t.l, .int .i64 t.i, .slice t.ka t.kl t.kc, .slice t.sa t.sl t.sc, .slice t.pa t.pl t.pc] 26)) := by rw [← hb0]; exact (Below.refl _ _).alloc (Nat.le_refl _) _
 have hrA := World.alloc_heap_new w (.cells #[.int .i64 t.k, .int .i64 t.d, .int .i64 t.f, .int .i64 t.p, .int .u32 t.l, .int .i64 t.i, .slice t.ka t.kl t.kc, .slice t.sa t.sl t.sc, .slice t.pa t.pl t.pc] 26)
 rw [hb0] at hrA
 have hju : IntKind.u64.wrap (L0.length : Int) = (L0.length : Int) := u64_wrap_id _ (by omega) (by omega)
 have hnn : ((L0.length : Int) != (L0.length : Int)) = false := by simp
 have hLi : (L0.length : Int) ≤ 8388608 := by omega
 clear h hv he ht h0 h1 h2 hvl hne
 unfold TreeV.val at *
 go_enter Try.func12, Try.ntmps12
 go_upto_region 1 with (fail)
 generalize w.alloc (.cells #[.int .i64 t.k, .int .i64 t.d, .int .i64 t.f, .int .i64 t.p, .int .u32 t.l, .int .i64 t.i, .slice t.ka t.kl t.kc, .slice t.sa t.sl t.sc, .slice t.pa t.pl t.pc] 26) = wA at *
 go_wp2_with ((with_reducible show wpList _ _ _ (Oper.mk _ (Op.load 26 _) _ _ _ _ :: _) _ _); refine wpList_load_row rfl 26 _ rfl b0 rfl _ _ _ _ hrA Try.underlying26 rfl (by kernel_rfl) ?_)
 refine (HVL.out wA).mono ?_; rintro e w2 ⟨rfl, hb2⟩
 have hr2 := rowStay hrA hb2
 have HB2 := hid (hbA.trans (hb2.mono (by have := (Array.getElem?_eq_some_iff.1 hrA).1; omega)))
 have hs2 : b0 < w2.heap.size := (Array.getElem?_eq_some_iff.1 hr2).1
 clear hrA hbA hb2
 go_wp2_with ((with_reducible show wpList _ _ _ (Oper.mk _ (Op.load 26 _) _ _ _ _ :: _) _ _); refine wpList_load_row rfl 26 _ rfl b0 rfl _ _ _ _ hr2 Try.underlying26 rfl (by kernel_rfl) ?_)
 refine (HLV.out w2).mono ?_; rintro e w3 ⟨rfl, hb3⟩
 have hr3 := rowStay hr2 hb3
 have HR3 := hid hr3
 have HB3 := hid (HB2.out.trans (hb3.mono (by omega)))
 have hs3 : b0 < w3.heap.size := (Array.getElem?_eq_some_iff.1 hr3).1
 clear hr2 hb3 hr3 HB2
 go_wp2_with fail
 go_loopw [35] (fun i wr => ∃ k : Nat, i = .int .i64 (k : Nat) ∧ k ≤ L0.length ∧ Below w3.heap.size w3 wr) (fun i _ => L0.length - (intOf i).toNat)
 case atStart => exact ⟨0, rfl, Nat.zero_le _, Below.refl _ _⟩
 case round =>
  obtain ⟨k, rfl, hk, hb⟩ := hrel
  by_cases hlt : k < L0.length
  case pos =>
   have hlt2 : (k : Int) < L0.length := by omega
   obtain ⟨xa', xc', e, -, -, h3⟩ := (HV.out.below (hb0 ▸ HB3.out)).below hb
   obtain ⟨g, off, rfl, h4, h5⟩ := h3.resolve_left (fun e => by rw [e] at hlt; simp at hlt)
   simp only [Value.slice.injEq] at e
   obtain ⟨rfl, -, rfl⟩ := e
   obtain ⟨xx, hxx, hxh⟩ := h5 k hlt
   obtain ⟨ya, yc, rfl, -, -⟩ := hxh.slice
   have hq : (((nthL L0 k).length : Int) != t.i) = false := by rw [H1.out k hlt]; simp
   have c5 : wr.cell? ⟨b0, 5, none⟩ = some (.int .i64 t.i) := cell_of_heap (rowStay HR3.out hb) 5
   have hs : b0 < wr.heap.size := by have := hb.size; omega
   have HB := hid hb
   clear hb hxh h3 h5
   go_wp2
   exact ⟨⟨k + 1, by go_num, by omega, HB.out⟩, by simp [intOf]; omega⟩
  obtain rfl : k = L0.length := by omega
  have hrr := rowStay HR3.out hb
  have HB := hid (HB3.out.trans (hb.mono (show b0 ≤ w3.heap.size by omega)))
  have hs : b0 < wr.heap.size := by have := hb.size; omega
  clear hb
  go_wp2_with ((with_reducible show wpList _ _ _ (Oper.mk _ (Op.load 26 _) _ _ _ _ :: _) _ _); refine wpList_load_row rfl 26 _ rfl b0 rfl _ _ _ _ hrr Try.underlying26 rfl (by kernel_rfl) ?_)
  refine (HFO.out wr HB.out).mono ?_; rintro e w9 ⟨u, rfl, ⟨R, hR, hu⟩, hb9⟩
  have HTOP := hid hR
  have HU := hid (hu.le (show b0 ≤ wr.heap.size by omega))
  have HB9 := hid (HB.out.trans (hb9.mono (show b0 ≤ wr.heap.size by omega)))
  clear hR hu hb9 hrr
  go_wp2
  go_ret2
  exact ⟨_, rfl, ⟨R, HTOP.out, by rw [hb0]; exact HU.out⟩, by rw [hb0]; exact HB9.out⟩
theorem StrAt.held {t : TreeV} {kz z1 z2 : List Int} {B p : Nat} {zs : List Int} {w : World} (hs : StrAt t kz z1 z2 B p zs w) : (zs.drop (t.setN zs.length * t.ln)).length ≤ t.ln ∧ (zs ≠ [] → 0 < (zs.drop (t.setN zs.length * t.ln)).length) := by
 obtain ⟨⟨A, h, hh, m, w1, S, h0⟩, hzl⟩ := hs
 have hl1 : 1 ≤ t.ln := by
  have := (TreeV.valid_facts S.v).2.2.2.2.2.2.2.2.1
  have := S.l
  unfold TreeV.ln; omega
 have his := S.of.is hl1 S.hl h0
 rw [← his.2.2]
 exact ⟨S.hl, fun hz => Nat.pos_of_ne_zero fun e => hz (h0 (List.eq_nil_of_length_eq_zero e))⟩
theorem held_sok (t : TreeV) (kz z1 z2 : List Int) (B p : Nat) (zs : List Int) (w : World) (hs : StrAt t kz z1 z2 B p zs w) :
  Calls Try.prog 21 #[.pointer (some ⟨p, 0, none⟩)] w fun e w' => e = .returned (.int .i64 ((zs.drop (t.setN zs.length * t.ln)).length : Nat)) ∧ w' = w := by
 obtain ⟨⟨A, h, hh, m, w1, S, h0⟩, hzl⟩ := hs
 have hl1 : 1 ≤ t.ln := by
  have := (TreeV.valid_facts S.v).2.2.2.2.2.2.2.2.1
  have := S.l
  unfold TreeV.ln; omega
 have his := S.of.is hl1 S.hl h0
 rw [← his.2.2]
 obtain ⟨ov, dv, vs, c, -, -, -, r4⟩ := id S.rows
 obtain ⟨ha, hc, rfl, hh1, hh2⟩ := id S.held.hold.slice
 have HNO := hid (none_sok t (.slice ha h.length hc) ov dv (zs.length : Nat) p w r4)
 have c9 : w.cell? ⟨p, 9, none⟩ = some (.slice ha h.length hc) := cell_of_heap r4 9
 have hpl : p < w.heap.size := (Array.getElem?_eq_some_iff.1 r4).1
 clear S h0 hzl his r4
 go_enter Try.func21, Try.ntmps21
 go_wp2_with fail
 refine HNO.out.mono ?_; rintro e w' ⟨rfl, hww⟩
 obtain rfl : w = w' := hww.symm
 go_wp2_with fail
 go_ret
 exact ⟨rfl, rfl⟩
/-- How many of a row's first numbers there are, up to the last that is not nought. -/
def mostOf (f : Nat → Nat) : Nat → Nat
 | 0 => 0
 | k + 1 => if 0 < f k then k + 1 else mostOf f k
theorem mostOf_le (f : Nat → Nat) : ∀ k, mostOf f k ≤ k
 | 0 => Nat.le_refl _
 | k + 1 => by
  have := mostOf_le f k
  unfold mostOf
  split <;> omega
theorem mostOf_pos {f : Nat → Nat} : ∀ {k}, mostOf f k ≠ 0 → 0 < f (mostOf f k - 1)
 | 0, h => absurd rfl h
 | k + 1, h => by
  unfold mostOf at h ⊢
  split
  ·rename_i h1; simpa using h1
  ·rename_i h1
   rw [if_neg h1] at h
   exact mostOf_pos h
/-- How many nodes of a row are open, where s leaves are settled. -/
def TreeV.opn (t : TreeV) (s r : Nat) : Nat := t.cntS s r - t.cntS s (r + 1) * t.fn
/-- What Open tells. -/
def TreeV.openN (t : TreeV) (s m : Nat) : List Nat := (List.range (mostOf (t.opn s) m)).map (t.opn s)
def encI (n : Nat) : Value := .int .i64 (n : Nat)
theorem info_int : (Try.prog.info? 3).map (fun i => (i.zero, i.size, i.bytes)) = some (some (.int .i64 0), 1, 8) := by kernel_rfl
/-- Rows are settled up to row m. -/
def TreeV.rowsM (t : TreeV) (s m : Nat) : Prop := (∀ r, r < m → 0 < t.cntS s r) ∧ t.cntS s m = 0 ∧ m ≤ 255
theorem open_sok (t : TreeV) (kz z1 z2 : List Int) (B p : Nat) (zs : List Int) (w : World) (hs : StrAt t kz z1 z2 B p zs w) :
  Calls Try.prog 22 #[.pointer (some ⟨p, 0, none⟩)] w fun e w' => ∃ u m, e = .returned u ∧ t.rowsM (t.setN zs.length) m ∧ w'.ownsRow w.heap.size 3 1 u (t.openN (t.setN zs.length) m).length ((t.openN (t.setN zs.length) m).map encI) ∧ Below w.heap.size w w' := by
 obtain ⟨⟨A, h, hh, m, w1, S, h0⟩, hzl⟩ := hs
 have hl1 : 1 ≤ t.ln := by
  have := (TreeV.valid_facts S.v).2.2.2.2.2.2.2.2.1
  have := S.l
  unfold TreeV.ln; omega
 have his := S.of.is hl1 S.hl h0
 obtain ⟨i0, hi, hz0, hz1, hz2⟩ := info_parts info_int
 rw [← his.1]
 have HN := hid S.now
 obtain ⟨ov, dv, vs, hp, hop, hdn⟩ := HN.out.rows
 have hm255 := S.mb
 have HM := hid (show t.rowsM A.length m from ⟨S.m1, S.m2, S.mb⟩)
 have HNO := hid (none_sok t hh ov dv (zs.length : Nat) p w hp)
 have HOP := hid hop
 have HP := hid hp
 have hpl : p < w.heap.size := (Array.getElem?_eq_some_iff.1 hp).1
 have hmi := hop.form
 rw [show ((List.range m).map (t.openL kz z1 z2 A)).length = m by simp] at hmi
 obtain ⟨va, vc, rfl, hmi⟩ := hmi
 have c11 : w.cell? ⟨p, 11, none⟩ = some (.slice va m vc) := cell_of_heap hp 11
 clear S h0 hzl his hp hop hdn
 go_enter Try.func22, Try.ntmps22
 go_wp2_with fail
 refine HNO.out.mono ?_; rintro e w' ⟨rfl, hww⟩
 obtain rfl : w = w' := hww.symm
 clear HNO
 go_wp2_with fail
 go_loopw [3, 4, 14] (fun l mo i wr => ∃ k : Nat, i = .int .i64 (k : Nat) ∧ k ≤ m ∧ mo = .int .i64 (mostOf (t.opn A.length) k : Nat) ∧ wr.ownsRow w.heap.size 3 1 l k (((List.range k).map (t.opn A.length)).map encI) ∧ Below w.heap.size w wr) (fun _ _ i _ => m - (intOf i).toNat)
 case atStart => exact ⟨0, rfl, Nat.zero_le _, rfl, World.ownsRow_nil _ _ _ _, Below.refl _ _⟩
 case round =>
  obtain ⟨k, rfl, hk, rfl, ho, hb⟩ := hrel
  by_cases hlt : k < m
  case pos =>
   have hlt2 : (k : Int) < (m : Int) := by omega
   obtain ⟨g, cap, cur, e, -, hg, hcur⟩ := HOP.out.at (i := k) (by simpa using hlt)
   have hx := HOP.out.2.1 k (by simpa using hlt)
   rw [getD_range _ _ hlt] at hx
   obtain ⟨x, hxe⟩ : ∃ x, vs.getD k undef = x := ⟨_, rfl⟩
   rw [hxe] at hx hcur
   simp only [Value.slice.injEq] at e
   obtain ⟨rfl, -, rfl⟩ := e
   obtain ⟨xa, xc, rfl, -⟩ := hx.form
   rw [TreeV.open_len] at hcur
   have hgr := rowStay hg hb
   have hop1 : t.opn A.length k = t.cntS A.length k - t.cntS A.length (k + 1) * t.fn := rfl
   rw [← hop1] at hcur
   obtain ⟨n, hn⟩ : ∃ n, t.opn A.length k = n := ⟨_, rfl⟩
   rw [hn] at hcur
   have hgl : g < wr.heap.size := (Array.getElem?_eq_some_iff.1 hgr).1
   obtain ⟨la, ln, lc, rfl⟩ := own_slice ho
   obtain rfl : k = ln := (own_len ho).symm
   have HO := hid ho
   have HB := hid hb
   have HN2 := hid hn
   have cg : wr.cell? ⟨g, k, none⟩ = some (.slice xa n xc) := (cell_of_heap hgr k).trans hcur
   have hwb : w.heap.size ≤ wr.heap.size := hb.size
   clear ho hb hn hgr hcur hx hxe hg hop1
   obtain ⟨b6, hb6⟩ : ∃ b6, wr.heap.size = b6 := ⟨_, rfl⟩
   go_upto_region 8 with (fail)
   have hr6 := World.alloc_heap_new wr (.cells #[.slice xa n xc] 82)
   have hbl : Below wr.heap.size wr (wr.alloc (.cells #[.slice xa n xc] 82)) := (Below.refl _ _).alloc (Nat.le_refl _) _
   rw [hb6] at hr6
   have ho7 := ownsRow_same' HO.out (fun b _ hb2 => hbl.block b hb2)
   have hb7 := HB.out.trans (hbl.mono hwb)
   generalize wr.alloc (.cells #[.slice xa n xc] 82) = wB at *
   have c6 : wB.cell? ⟨b6, 0, none⟩ = some (.slice xa n xc) := cell_of_heap hr6 0
   have h6 : b6 < wB.heap.size := (Array.getElem?_eq_some_iff.1 hr6).1
   have HO7 := hid ho7
   have HB7 := hid hb7
   have HR6 := hid hr6
   have hwb7 : w.heap.size ≤ wB.heap.size := hb7.size
   have hkb : (k + 1 ≤ maxLen) ∧ (k + 1) * 8 ≤ 140737488355328 := by unfold maxLen; omega
   clear HO HB hbl ho7 hb7 hr6 cg hgl hb6 hwb
   go_upto_region 9 with (at_builtin; refine wpList_push rfl _ _ _ rfl w.heap.size 3 (by decide) i0 (.int .i64 0) 1 8 Try.underlying50 hi hz0 hz1 hz2 rfl (by decide) (.slice la k lc) k (((List.range k).map (t.opn A.length)).map encI) [.int .i64 (n : Nat)] _ rfl HO7.out rfl rfl (by simp [Value.oneCell']) hkb.1 hkb.2 hwb7 ?_; intro v' w' hown' hkb' hsp'; obtain ⟨va', vn', vc', rfl⟩ := own_slice hown'; have hr6' := (hsp'.block b6 h6 (fun e => own_off HO7.out HR6.out (by decide) b6 e rfl)).trans HR6.out; have c6' : w'.cell? ⟨b6, 0, none⟩ = some (.slice xa n xc) := cell_of_heap hr6' 0; have h6' : b6 < w'.heap.size := (Array.getElem?_eq_some_iff.1 hr6').1)
   have e1 : ((List.range k).map (t.opn A.length)).map encI ++ [.int .i64 (n : Nat)] = ((List.range (k + 1)).map (t.opn A.length)).map encI := by
    rw [map_range_snoc, List.map_append, HN2.out]; rfl
   rw [e1] at hown'
   have HO9 := hid hown'
   have HB9 := hid (show Below w.heap.size w w' from ⟨hkb'.os.trans HB7.out.os, hkb'.tape.trans HB7.out.tape, hkb'.output.trans HB7.out.output, Nat.le_trans HB7.out.size hkb'.size, fun b hb2 => (hkb'.block b hb2).trans (HB7.out.block b hb2)⟩)
   have hmo : mostOf (t.opn A.length) (k + 1) = if 0 < n then k + 1 else mostOf (t.opn A.length) k := by rw [← HN2.out]; rfl
   have HMO := hid hmo
   clear hown' hkb' hsp' hr6' e1 HO7 HB7 HR6 hmo c6 h6
   by_cases hn0 : 0 < n
   case pos =>
    have hn1 : 0 < (n : Int) := by omega
    go_wp2_with fail
    exact ⟨⟨k + 1, by go_num, by omega, by rw [HMO.out, if_pos hn0]; go_num, HO9.out, HB9.out⟩, by simp [intOf] <;> omega⟩
   have hn1 : ¬ (0 < (n : Int)) := by omega
   go_wp2_with fail
   exact ⟨⟨k + 1, by go_num, by omega, by rw [HMO.out, if_neg hn0], HO9.out, HB9.out⟩, by simp [intOf] <;> omega⟩
  obtain rfl : k = m := by omega
  obtain ⟨la, ln, lc, rfl⟩ := own_slice ho
  obtain rfl : k = ln := (own_len ho).symm
  have hml := mostOf_le (t.opn A.length) k
  obtain ⟨mo, hmo⟩ : ∃ mo, mostOf (t.opn A.length) k = mo := ⟨_, rfl⟩
  rw [hmo] at hml ⊢
  have hcap : k ≤ lc ∧ (lc : Int) ≤ 9223372036854775807 := by
   rcases ho.2 with ⟨e, e2⟩ | ⟨g, cap, cur, e, -, -, k3, k4, -⟩
   ·simp only [Value.slice.injEq] at e; omega
   ·simp only [Value.slice.injEq] at e
    unfold maxLen at k4; omega
  have hfin : wr.ownsRow w.heap.size 3 1 (.slice la mo lc) (t.openN A.length k).length ((t.openN A.length k).map encI) := by
   have e1 : (t.openN A.length k).length = mo := by unfold TreeV.openN; rw [List.length_map, List.length_range, hmo]
   have e2 : (t.openN A.length k).map encI = (((List.range k).map (t.opn A.length)).map encI).take mo := by
    unfold TreeV.openN
    rw [hmo, ← List.map_take, ← List.map_take, List.take_range, Nat.min_eq_left hml]
   rw [e1, e2]
   refine ⟨by simp; omega, ?_⟩
   rcases ho.2 with ⟨e, e3⟩ | ⟨g, cap, cur, e, k1, k2, k3, k4, k5, k6⟩
   ·simp only [Value.slice.injEq] at e
    obtain ⟨rfl, -, rfl⟩ := e
    exact .inl ⟨by rw [show mo = 0 by omega], by omega⟩
   ·simp only [Value.slice.injEq] at e
    obtain ⟨rfl, -, rfl⟩ := e
    exact .inr ⟨g, lc, cur, rfl, k1, k2, by omega, k4, k5, by rw [← k6, List.take_take, Nat.mul_one, Nat.mul_one, Nat.min_eq_left hml]⟩
  have HF := hid hfin
  have HB := hid hb
  have hml2 : (mo : Int) ≤ (lc : Int) ∧ 0 ≤ (mo : Int) := by omega
  obtain ⟨hml2, hml3⟩ := hml2
  clear hfin ho hb hmo
  go_wp2_with fail
  go_ret
  exact ⟨_, _, rfl, HM.out, HF.out, HB.out⟩
end Go.Proofs.Ytchepcilkcdemaa
