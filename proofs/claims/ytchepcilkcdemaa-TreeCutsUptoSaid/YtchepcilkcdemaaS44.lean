/- The digest so far: Sum. No condition. -/
import Derived.Test.YtchepcilkcdemaaS42
import Derived.Test.YtchepcilkcdemaaS43
import Derived.Deep.DeepCutAuto
set_option linter.all false
set_option maxRecDepth 100000
set_option maxHeartbeats 8000000
namespace Go.Proofs.Ytchepcilkcdemaa
open Go.ChangeShapes Go.WideShapes Go.ChangeAt Go.RowKit Go.Joins Go.Shelf Go.Maps
open Go.Lib (hid)
attribute [local go_sem] Oper.semAt_some
theorem sum_sok (t : TreeV) (kz z1 z2 : List Int) (B p : Nat) (zs : List Int) (w : World) (hs : StrAt t kz z1 z2 B p zs w) :
  Calls Try.prog 20 #[.pointer (some ⟨p, 0, none⟩)] w fun e w' => ∃ u, e = .returned u ∧ OwnB w.heap.size w' u (t.digZ kz z1 z2 zs) ∧ Below w.heap.size w w' := by
 obtain ⟨⟨A, h, hh, m, w1, S, h0⟩, hzl⟩ := hs
 obtain ⟨i0, hi, hz0, hz1, hz2⟩ := info_parts info_u8
 obtain ⟨tk, htk⟩ : ∃ tk, zs.length = tk := ⟨_, rfl⟩
 rw [htk] at S hzl
 have hln : (t.ln : Int) = t.l := by have := S.l; unfold TreeV.ln; omega
 have hl1 : 1 ≤ t.ln := by
  have := (TreeV.valid_facts S.v).2.2.2.2.2.2.2.2.1
  have := S.l
  unfold TreeV.ln; omega
 have htkl : zs.length ≤ 4194304 := by omega
 have his := S.of.is hl1 S.hl h0
 obtain ⟨R, hR, hRb⟩ := TreeV.top_ex S.v A.length
 have hdig : t.digZ kz z1 z2 zs = t.endO kz z1 z2 A h R := by
  rw [TreeV.dig_ends S.v S.l kz z1 z2 zs htkl (R := R) (by rw [← his.1]; exact hR), ← his.2.1, ← his.2.2]
 have hpn := TreeV.pn_is S.v
 have HN := hid S.now
 obtain ⟨ov, dv, vs, hp, hop, hdn⟩ := HN.out.rows
 have hcr : ((List.range m).map (t.cntS A.length)).length = m := by simp
 rw [hcr] at hdn
 obtain ⟨ha, hc, rfl, hh1, hh2⟩ := id S.held.hold.slice
 have HP := hid hp
 have HOP := hid hop
 have HDN := hid hdn
 have HNO := hid (none_sok t (.slice ha h.length hc) ov dv (tk : Nat) p w hp)
 obtain ⟨cn, hcn⟩ : ∃ cn, A.length = cn := ⟨_, rfl⟩
 have hgd : ((List.range m).map (t.cntS A.length)).getD 0 0 = cn := by
  rw [← hcn]
  by_cases h8 : 0 < m
  ·rw [getD_range _ _ h8]; rfl
  ·obtain rfl : m = 0 := by omega
   exact S.m2.symm
 have hse := fun (W : World) (hW : Below w.heap.size w W) => settled_sok t _ _ _ (tk : Int) p B ((List.range m).map (t.cntS A.length)) 0 W (rowStay HP.out hW) (by rw [List.length_map, List.length_range]; exact ownsRow_same' HDN.out (fun b _ hb => hW.block b hb)) (by omega)
 rw [hgd] at hse
 have HSE := hid hse
 have hcn1 : cn ≤ 4194304 := by
  have h8 := S.of.le
  have h9 : 1 ≤ t.ln := by omega
  have h10 : A.length * 1 ≤ A.length * t.ln := Nat.mul_le_mul_left _ h9
  omega
 have hTO : ∀ W, Below w.heap.size w W → TreeOk t kz z1 z2 W := fun W hW => ⟨S.v, S.l, (HN.out.k.kb (KB.of_below hW (Nat.zero_le _))).hold, (HN.out.s.kb (KB.of_below hW (Nat.zero_le _))).hold, (HN.out.q.kb (KB.of_below hW (Nat.zero_le _))).hold⟩
 have HTC := hid (fun (W : World) (hW : Below w.heap.size w W) => treeCall_ok t S.v S.l z1 z2 kz 0 cn (by omega) (by omega) true false ha h.length hc W (hTO W hW).s (hTO W hW).p (hTO W hW).k)
 obtain ⟨ND, hND⟩ : ∃ d, t.node kz z1 z2 0 cn true false h = d := ⟨_, rfl⟩
 have hnc := fun (W : World) (hW : Below w.heap.size w W) (bv kv : Value) (ho : W.ownsRow w.heap.size 5 1 bv (mB t.big) ((t.blk z1 z2 0 cn).map encB)) (hk : W.ownsRow w.heap.size 5 1 kv (keyL 0 kz).length ((keyL 0 kz).map encB)) => node_ok (hTO W hW) (row := 0) (at_ := cn) (by omega) (by omega) true false h (.slice ha h.length hc) bv kv W w.heap.size ho hk (HN.out.held.hold.below hW) (by have h8 := S.of.le; omega)
 rw [hND] at hnc
 have HNC := hid hnc
 have hcnle : ∀ r, t.cntS A.length r ≤ 4194304 := fun r => by have := t.cntS_le A.length r; omega
 have hND0 : ND = t.endO kz z1 z2 A h 0 := by
  rw [← hND, ← hcn]; rfl
 have HND0 := hid hND0
 have HHN := hid (show A.length = cn from hcn)
 have HS := hid S
 have HTOP := hid hR
 have HRB := hid hRb
 have HDIG := hid hdig
 have HTO := hid hTO
 have HCN := hid hcnle
 have HPN := hid hpn
 have hplW : p < w.heap.size := (Array.getElem?_eq_some_iff.1 hp).1
 clear S hp hop hdn hcr hgd hse hnc hTO hND hcn hND0 hcnle hln htkl h0 his hR hRb hdig hpn htk hzl
 go_enter Try.func20, Try.ntmps20
 go_wp2_with fail
 refine HNO.out.mono ?_; rintro e w' ⟨rfl, hww⟩
 obtain rfl : w = w' := hww.symm
 clear HNO
 go_upto_region 3 with (fail)
 refine wp_region_c (n := 17) (w0 := w) (B := w.heap.size) [.v 11 (.pointer (some ⟨p, 0, none⟩)), .v 12 (.pointer (some ⟨p, 0, none⟩)), .v 13 (.pointer (some ⟨p, 0, none⟩)), .v 14 (.agg #[.int .i64 t.k, .int .i64 t.d, .int .i64 t.f, .int .i64 t.p, .int .u32 t.l, .int .i64 t.i, .slice t.ka t.kl t.kc, .slice t.sa t.sl t.sc, .slice t.pa t.pl t.pc]), .v 15 (.pointer (some ⟨p, 0, none⟩)), .v 16 (.int .u64 (cn : Nat)), .v 17 (.pointer (some ⟨p, 0, none⟩)), .v 18 (.pointer (some ⟨p, 0, none⟩)), .v 19 (.pointer (some ⟨p, 9, none⟩)), .v 20 (.slice ha h.length hc), .p 21 (fun u W => ∃ bv kv, u = .agg (callC t.k bv kv true (t.outN false) (.slice ha h.length hc)) ∧ W.ownsRow w.heap.size 5 1 bv (mB t.big) ((t.blk z1 z2 0 cn).map encB) ∧ W.ownsRow w.heap.size 5 1 kv (keyL 0 kz).length ((keyL 0 kz).map encB)), .p 22 (fun u W => ∃ x, u = .tuple #[x, .int .i64 0] ∧ OwnB w.heap.size W x ND), .p 10 (fun u W => ∃ x, u = .tuple #[x, .int .i64 0] ∧ OwnB w.heap.size W x ND), .p 23 (fun u W => OwnB w.heap.size W u ND), .v 24 (.int .i64 0), .p 3 (fun u W => OwnB w.heap.size W u ND), .v 4 (.int .i64 0)] (by exact ⟨(fun v W W' h hb => by obtain ⟨bv, kv, e, h1, h2⟩ := h; exact ⟨bv, kv, e, ownsRow_same' h1 (fun b _ hb2 => hb.block b hb2), ownsRow_same' h2 (fun b _ hb2 => hb.block b hb2)⟩), (fun v W W' h hb => by obtain ⟨x, e, h1⟩ := h; exact ⟨x, e, h1.kb (KB.of_below hb (Nat.zero_le _))⟩), (fun v W W' h hb => by obtain ⟨x, e, h1⟩ := h; exact ⟨x, e, h1.kb (KB.of_below hb (Nat.zero_le _))⟩), (fun v W W' h hb => OwnB.kb h (KB.of_below hb (Nat.zero_le _))), (fun v W W' h hb => OwnB.kb h (KB.of_below hb (Nat.zero_le _))), trivial⟩) (Below.refl _ _).drew (Nat.le_refl _) ?_ ?_
 ·repeat' (with_reducible first | exact eachO_nil | refine eachO_cons ?_ ?_)
  all_goals try
   intro AA x W hA hW hBW hdep D K hK
   have a0 := hA.2 0 (by decide)
   conv at a0 => rhs; whnf
   have hpW : p < W.heap.size := by omega
   have c9 : W.cell? ⟨p, 9, none⟩ = some (.slice ha h.length hc) := cell_of_heap (rowStay HP.out hW) 9
   simp only [DepF, nthF] at D
   clear hdep hA
   go_simp
   exact hK _ _ (Below.refl _ _) rfl
  ·intro AA x W hA hW hBW hdep _ K hK
   have g13 := gv hA hdep 2 13
   clear hdep hA
   exact wp_load_part 26 _ rfl p 0 g13 77 _ #[.int .i64 t.k, .int .i64 t.d, .int .i64 t.f, .int .i64 t.p, .int .u32 t.l, .int .i64 t.i, .slice t.ka t.kl t.kc, .slice t.sa t.sl t.sc, .slice t.pa t.pl t.pc] (0, 0) _ (rowStay HP.out hW) Try.underlying26 rfl (by kernel_rfl) (fun j hj => strC_tree t _ _ _ _ hj) (hK _ _ (Below.refl _ _) rfl)
  ·intro AA x W hA hW hBW hdep _ K hK
   have g15 := gv hA hdep 4 15
   clear hdep hA
   go_simp
   refine (HSE.out W hW).mono ?_; rintro e w5 ⟨rfl, rfl⟩
   exact hK _ _ (Below.refl _ _) rfl
  ·intro AA x W hA hW hBW hdep _ K hK
   have g14 := gv hA hdep 3 14
   have g16 := gv hA hdep 5 16
   have g20 := gv hA hdep 9 20
   clear hdep hA
   go_simp
   refine (HTC.out W hW).mono ?_; rintro e w5 ⟨bv, kv, rfl, h1, h2, hb5⟩
   exact hK _ _ hb5 ⟨bv, kv, rfl, ownsRow_le h1 hBW, ownsRow_le h2 hBW⟩
  ·intro AA x W hA hW hBW hdep D K hK
   simp only [DepF, nthF] at D
   obtain ⟨⟨bv, kv, e8, h1, h2⟩, -⟩ := D
   have g21 : AA.tmps[21]?.getD undef = .agg (callC t.k bv kv true (t.outN false) (.slice ha h.length hc)) := by rw [← Array.getD_eq_getD_getElem?]; exact e8
   clear hdep hA e8
   go_simp
   refine (HNC.out W hW bv kv h1 h2).mono ?_; rintro e w5 ⟨x9, rfl, ho9, hb5⟩
   exact hK _ _ hb5 ⟨x9, rfl, ho9.le hBW⟩
  ·intro AA x W hA hW hBW hdep D K hK
   simp only [DepF, nthF] at D
   obtain ⟨⟨x9, e9, ho9⟩, -⟩ := D
   have g22 : AA.tmps[22]?.getD undef = .tuple #[x9, .int .i64 0] := by rw [← Array.getD_eq_getD_getElem?]; exact e9
   clear hdep hA e9
   go_simp
   exact hK _ _ (Below.refl _ _) ⟨x9, rfl, ho9⟩
  ·intro AA x W hA hW hBW hdep D K hK
   simp only [DepF, nthF] at D
   obtain ⟨⟨x9, e9, ho9⟩, -⟩ := D
   have g10 : AA.tmps[10]?.getD undef = .tuple #[x9, .int .i64 0] := by rw [← Array.getD_eq_getD_getElem?]; exact e9
   clear hdep hA e9
   go_simp
   exact hK _ _ (Below.refl _ _) ho9
  ·intro AA x W hA hW hBW hdep D K hK
   simp only [DepF, nthF] at D
   obtain ⟨⟨x9, e9, ho9⟩, -⟩ := D
   have g10 : AA.tmps[10]?.getD undef = .tuple #[x9, .int .i64 0] := by rw [← Array.getD_eq_getD_getElem?]; exact e9
   clear hdep hA e9
   go_simp
   exact hK _ _ (Below.refl _ _) rfl
  ·intro AA x W hA hW hBW hdep D K hK
   simp only [DepF, nthF] at D
   obtain ⟨ho9, -⟩ := D
   obtain ⟨x9, hx9⟩ : ∃ x9, AA.tmps.getD 23 undef = x9 := ⟨_, rfl⟩
   rw [hx9] at ho9
   have g23 : AA.tmps[23]?.getD undef = x9 := by rw [← Array.getD_eq_getD_getElem?]; exact hx9
   clear hdep hA hx9
   go_simp
   exact hK _ _ (Below.refl _ _) ho9
 intro x W hW hBW hall
 obtain ⟨-, -, -, -, e1, -⟩ := hall
 change (fun u W => OwnB w.heap.size W u ND) (x 3) W at e1
 refine thenTail_nil ?_
 simp only [layS, Act.put, List.setIfInBounds_toArray, List.set_cons_zero, List.set_cons_succ]
 generalize x 21 = X21 at *
 generalize x 22 = X22 at *
 generalize x 10 = X10 at *
 generalize x 23 = X23 at *
 generalize x 3 = X3 at *
 have HW := hid hW
 have HE1 := hid (show OwnB w.heap.size W X3 (t.endO kz z1 z2 A h 0) by rw [← HND0.out]; exact e1)
 clear hW hBW e1 HSE HTC HNC HND0
 have hX3 := HE1.out.hold.slice
 obtain ⟨oa0, oc0, rfl, -, -⟩ := hX3
 go_wp2_with fail
 go_loopw [3, 5] (fun o i wr => ∃ q : Nat, i = .int .i64 ((q + 1 : Nat) : Int) ∧ q + 1 ≤ R ∧ OwnB w.heap.size wr o (t.endO kz z1 z2 A h q) ∧ Below w.heap.size w wr) (fun _ i _ => R + 1 - (intOf i).toNat)
 case atStart => exact ⟨0, rfl, HTOP.out.1, HE1.out, HW.out⟩
 case round =>
  clear HE1 HW oa0 oc0 W
  obtain ⟨q, rfl, hq, ho, hb⟩ := hrel
  obtain ⟨r, hr⟩ : ∃ r, q + 1 = r := ⟨_, rfl⟩
  rw [hr] at hq ⊢
  have hr255 : r ≤ 255 := by have := HRB.out; have := HPN.out; omega
  have hwr : IntKind.i64.wrap ((r : Int) - 1) = (q : Int) := by rw [IntKind.wrap_i64] <;> omega
  obtain ⟨OZ, hOZ⟩ : ∃ z, t.endO kz z1 z2 A h q = z := ⟨_, rfl⟩
  rw [hOZ] at ho
  have hOZl : OZ.length ≤ 64 := by rw [← hOZ]; cases q <;> exact TreeV.node_len ..
  obtain ⟨oa, oc, rfl, -, -⟩ := id ho.hold.slice
  obtain ⟨DZ, hDZ⟩ : ∃ z, (t.openL kz z1 z2 A q).flatten = z := ⟨_, rfl⟩
  have hDl : DZ.length ≤ 536870912 := by
   rw [← hDZ]
   have h8 := flat_le (TreeV.openL_le HS.out.v kz z1 z2 HS.out.a q)
   rw [TreeV.open_len] at h8
   have := HCN.out q
   omega
  have HR := hid hr
  have HQ := hid hq
  have HO := hid ho
  have HB := hid hb
  have HOZ := hid hOZ
  have HDZ := hid hDZ
  have HLD := hid (show DZ.length ≤ 536870912 ∧ OZ.length ≤ 64 from ⟨hDl, hOZl⟩)
  have hmi := HOP.out.form
  rw [show ((List.range m).map (t.openL kz z1 z2 A)).length = m by simp] at hmi
  obtain ⟨va, vc, rfl, hmi⟩ := hmi
  have hplr : p < wr.heap.size := by have := hb.size; omega
  have c11 : wr.cell? ⟨p, 11, none⟩ = some (.slice va m vc) := cell_of_heap (rowStay HP.out hb) 11
  clear hr hq ho hb hOZ hDZ hDl hOZl
  go_upto_if 34 with (fail)
  go_cut [6] (fun d V => ∃ da dc, d = .slice da DZ.length dc ∧ OwnR w.heap.size V (.slice da DZ.length dc) DZ ∧ Below w.heap.size w V ∧ OwnB w.heap.size V (.slice oa OZ.length oc) OZ)
  case first =>
   by_cases hqm : q < m
   case pos =>
    have hqm2 : (q : Int) < (m : Int) := by omega
    obtain ⟨g, cap, cur, e, -, hg, hcur⟩ := HOP.out.at (i := q) (by simpa using hqm)
    have hx := HOP.out.2.1 q (by simpa using hqm)
    rw [getD_range _ _ hqm] at hx
    obtain ⟨x, hxe⟩ : ∃ x, vs.getD q undef = x := ⟨_, rfl⟩
    rw [hxe] at hx hcur
    simp only [Value.slice.injEq] at e
    obtain ⟨rfl, -, rfl⟩ := e
    obtain ⟨xa, xc, rfl, -⟩ := hx.form
    have hgl : g < w.heap.size := (Array.getElem?_eq_some_iff.1 hg).1
    have hglr : g < wr.heap.size := by have := HB.out.size; omega
    have cg : wr.cell? ⟨g, q, none⟩ = some (.slice xa (t.openL kz z1 z2 A q).length xc) := (HB.out.cell (p := ⟨g, q, none⟩) hgl).trans ((cell_of_heap hg q).trans hcur)
    have hj := joined_ok (t.openL kz z1 z2 A q) (.slice xa (t.openL kz z1 z2 A q).length xc) wr ((hx.below HB.out).hold) (by rw [HDZ.out]; have := HLD.out; omega)
    rw [HDZ.out] at hj
    have HJ := hid hj
    have HDB := hid (show ∀ a ∈ DZ, 0 ≤ a ∧ a ≤ 255 by rw [← HDZ.out]; exact bytes_flat (hx.below HB.out).hold.bytes)
    generalize (t.openL kz z1 z2 A q).length = LL at *
    clear hg hcur hx hxe hj
    go_wp2_with fail
    refine HJ.out.mono ?_; rintro e w5 ⟨u, rfl, hd5, hb5⟩
    have hd6 := ownsRow_le hd5 (show w.heap.size ≤ wr.heap.size from HB.out.size)
    have hb6 := HB.out.trans (hb5.mono HB.out.size)
    have ho6 := HO.out.kb (KB.of_below hb5 (Nat.zero_le _))
    obtain ⟨da, dn, dc, rfl⟩ := own_slice hd6
    obtain rfl : dn = DZ.length := own_len hd6
    have HD6 := hid hd6
    have HB6 := hid hb6
    have HO6 := hid ho6
    clear hd5 hb5 HJ hd6 hb6 ho6
    go_wp2_with fail
    go_meet
    case rel => exact ⟨da, dc, rfl, ⟨HDB.out, HD6.out⟩, HB6.out, HO6.out⟩
   have hqm2 : ¬ ((q : Int) < (m : Int)) := by omega
   have hD0 : DZ = [] := by
    rw [← HDZ.out, TreeV.openL_zero (TreeV.cntS_zeros HS.out.m2 q (by omega))]; rfl
   have HD0 := hid hD0
   clear hD0
   go_wp2_with fail
   go_meet
   case rel => exact ⟨none, 0, by rw [HD0.out]; rfl, by rw [HD0.out]; exact OwnR.nil _ _, HB.out, HO.out⟩
  case rest =>
   obtain ⟨da, dc, rfl, hdv, hbv, hov⟩ := hcut
   have HDV := hid hdv.2
   have HDB := hid hdv.1
   have HBV := hid hbv
   have HOV := hid hov
   have hplV : p < wc.heap.size := by have := hbv.size; omega
   clear hdv hbv hov HB HO c11 hplr wr
   obtain ⟨V, rfl⟩ : ∃ V, V = wc := ⟨_, rfl⟩
   obtain ⟨cn1, hcn1⟩ : ∃ c, t.cntS A.length r = c := ⟨_, rfl⟩
   have hcn1b : cn1 ≤ 4194304 := by rw [← hcn1]; exact HCN.out r
   obtain ⟨rt, hrt⟩ : ∃ b, t.rootZ r (t.cntS A.length q + 1) = b := ⟨_, rfl⟩
   have hri := TreeV.root_is HS.out.v A.length (r := q) (by have := HR.out; have := HQ.out; have := HRB.out; omega)
   rw [HR.out, hrt, hcn1] at hri
   have KEYR : ((t.f == 0) = true ∧ rt = true) ∨ ((t.f == 0) = false ∧ ((r : Int) == t.p - 1) = true ∧ rt = true) ∨ ((t.f == 0) = false ∧ ((r : Int) == t.p - 1) = false ∧ ((cn1 : Int) == 0) = rt) := by
    by_cases k1 : t.f = 0
    ·exact .inl ⟨by rw [k1]; rfl, by rw [hri]; exact decide_eq_true (.inl k1)⟩
    ·by_cases k2 : (r : Int) = t.p - 1
     ·exact .inr (.inl ⟨by rw [beq_eq_false_iff_ne]; exact k1, by rw [beq_iff_eq]; exact k2, by rw [hri]; exact decide_eq_true (.inr (.inl k2))⟩)
     ·refine .inr (.inr ⟨by rw [beq_eq_false_iff_ne]; exact k1, by rw [beq_eq_false_iff_ne]; exact k2, ?_⟩)
      by_cases k3 : cn1 = 0
      ·rw [hri, decide_eq_true (.inr (.inr k3)), k3]; rfl
      ·rw [hri, decide_eq_false (by rintro (h | h | h) <;> contradiction), beq_eq_false_iff_ne]; omega
   have hwp : IntKind.i64.wrap (t.p - 1) = t.p - 1 := by rw [IntKind.wrap_i64] <;> (have := HPN.out; omega)
   have c2 : V.cell? ⟨p, 2, none⟩ = some (.int .i64 t.f) := cell_of_heap (rowStay HP.out HBV.out) 2
   have c3 : V.cell? ⟨p, 3, none⟩ = some (.int .i64 t.p) := cell_of_heap (rowStay HP.out HBV.out) 3
   have hgd2 : ((List.range m).map (t.cntS A.length)).getD r 0 = cn1 := by
    rw [← hcn1]
    by_cases h8 : r < m
    ·rw [getD_range _ _ h8]
    ·rw [TreeV.cntS_zeros HS.out.m2 r (by omega), List.getD_eq_getElem?_getD, List.getElem?_eq_none (by simp; omega)]; rfl
   have hse2 := fun (W : World) (hW : Below w.heap.size w W) => settled_sok t _ _ _ (tk : Int) p B ((List.range m).map (t.cntS A.length)) r W (rowStay HP.out hW) (by rw [List.length_map, List.length_range]; exact ownsRow_same' HDN.out (fun b _ hb => hW.block b hb)) (by omega)
   rw [hgd2] at hse2
   have HSE2 := hid hse2
   have HRT := hid hrt
   have HC1 := hid hcn1
   clear hcn1 hrt hri hgd2 hse2
   go_upto_region 9 with (fail)
   go_cut [7] (fun u W => u = .bool rt ∧ W = V)
   case first =>
    rcases KEYR with ⟨q1, rfl⟩ | ⟨q1, q2, rfl⟩ | ⟨q1, q2, q3⟩
    ·go_wp2_with fail
     go_meet
     case rel => exact ⟨rfl, rfl⟩
    ·go_wp2_with fail
     go_meet
     case rel => exact ⟨rfl, rfl⟩
    ·have Q3 := hid q3
     clear q3
     go_wp2_with fail
     refine (HSE2.out V HBV.out).mono ?_; rintro e w5 ⟨rfl, hww⟩
     obtain rfl : V = w5 := hww.symm
     go_wp2_with fail
     go_meet
     case rel => exact ⟨by rw [Q3.out], rfl⟩
   case rest =>
    obtain ⟨rfl, hww⟩ := hcut
    obtain rfl : V = wc := hww.symm
    clear KEYR hwp c2 c3
    obtain ⟨NZ, hNZ⟩ : ∃ d, t.node kz z1 z2 r cn1 true rt (DZ ++ OZ) = d := ⟨_, rfl⟩
    have hend : t.endO kz z1 z2 A h r = NZ := by
     rw [← hNZ, ← HR.out, ← HOZ.out, ← HDZ.out, ← HC1.out, ← HRT.out, ← HR.out]; rfl
    have hnc2 := fun (W : World) (hW : Below w.heap.size w W) (bv kv du : Value) (ho : W.ownsRow w.heap.size 5 1 bv (mB t.big) ((t.blk z1 z2 r cn1).map encB)) (hk : W.ownsRow w.heap.size 5 1 kv (keyL r kz).length ((keyL r kz).map encB)) (hd : W.ownsRow w.heap.size 5 1 du (DZ.length + OZ.length) ((DZ ++ OZ).map encB)) => node_ok (HTO.out W hW) (row := r) (at_ := cn1) (by omega) (by omega) true rt (DZ ++ OZ) du bv kv W w.heap.size ho hk (hold_of_own hd (fun z hz => by
     rcases List.mem_append.1 hz with h8 | h8
     ·exact HDB.out z h8
     ·exact HOV.out.1 z h8)) (by rw [List.length_append]; have := HLD.out; omega)
    rw [hNZ] at hnc2
    have HNC2 := hid hnc2
    have HTC2 := hid (fun (W : World) (hW : Below w.heap.size w W) (ua : Option Addr) (un uc : Nat) => treeCall_ok t HS.out.v HS.out.l z1 z2 kz r cn1 (by omega) (by omega) true rt ua un uc W (HTO.out W hW).s (HTO.out W hW).p (HTO.out W hW).k)
    have HEND := hid hend
    clear hNZ hend hnc2
    go_upto_region 10 with (fail)
    refine wp_region_ac (n := 18) (fun f W => Below w.heap.size w W ∧ (f = false → Below V.heap.size V W)) 11 [.v 68 (.pointer (some ⟨p, 0, none⟩)), .v 69 (.pointer (some ⟨p, 0, none⟩)), .v 70 (.pointer (some ⟨p, 0, none⟩)), .v 71 (.agg #[.int .i64 t.k, .int .i64 t.d, .int .i64 t.f, .int .i64 t.p, .int .u32 t.l, .int .i64 t.i, .slice t.ka t.kl t.kc, .slice t.sa t.sl t.sc, .slice t.pa t.pl t.pc]), .v 72 (.int .i64 (r : Nat)), .v 73 (.pointer (some ⟨p, 0, none⟩)), .v 74 (.int .i64 (r : Nat)), .v 75 (.int .u64 (cn1 : Nat)), .v 76 (.bool rt), .v 77 (.slice da DZ.length dc), .v 78 (.slice oa OZ.length oc), .p 79 (fun u W => W.ownsRow w.heap.size 5 1 u (DZ.length + OZ.length) ((DZ ++ OZ).map encB)), .p 80 (fun u W => ∃ bv kv du, u = .agg (callC t.k bv kv true (t.outN rt) du) ∧ W.ownsRow w.heap.size 5 1 du (DZ.length + OZ.length) ((DZ ++ OZ).map encB) ∧ W.ownsRow w.heap.size 5 1 bv (mB t.big) ((t.blk z1 z2 r cn1).map encB) ∧ W.ownsRow w.heap.size 5 1 kv (keyL r kz).length ((keyL r kz).map encB)), .p 81 (fun u W => ∃ x, u = .tuple #[x, .int .i64 0] ∧ OwnB w.heap.size W x NZ), .p 67 (fun u W => ∃ x, u = .tuple #[x, .int .i64 0] ∧ OwnB w.heap.size W x NZ), .p 82 (fun u W => OwnB w.heap.size W u NZ), .v 83 (.int .i64 0), .p 3 (fun u W => OwnB w.heap.size W u NZ)] (by exact ⟨(fun W W' hb u h => ownsRow_same' h (fun b _ hb2 => hb.block b hb2)), (fun W W' hb u h => by obtain ⟨bv, kv, du, e, h1, h2, h3⟩ := h; exact ⟨bv, kv, du, e, ownsRow_same' h1 (fun b _ hb2 => hb.block b hb2), ownsRow_same' h2 (fun b _ hb2 => hb.block b hb2), ownsRow_same' h3 (fun b _ hb2 => hb.block b hb2)⟩), (fun W W' hb u h => by obtain ⟨x, e, h1⟩ := h; exact ⟨x, e, h1.kb (KB.of_below hb (Nat.zero_le _))⟩), (fun W W' hb u h => by obtain ⟨x, e, h1⟩ := h; exact ⟨x, e, h1.kb (KB.of_below hb (Nat.zero_le _))⟩), (fun W W' hb u h => OwnB.kb h (KB.of_below hb (Nat.zero_le _))), (fun W W' hb u h => OwnB.kb h (KB.of_below hb (Nat.zero_le _))), trivial⟩) ⟨HBV.out.drew, fun _ => (Below.refl _ _).drew⟩ (fun f W W' h hb => ⟨h.1.trans (hb.mono h.1.size), fun e => (h.2 e).trans (hb.mono (h.2 e).size)⟩) ?_ ?_ ?_
    ·repeat' (with_reducible first | exact eachO_nil | refine eachO_cons ?_ ?_)
     all_goals try
      refine .inr ?_
      intro A x W f hA hR hf hf2 hx hdep D K hK
      have a0 := hA.2 0 (by decide)
      conv at a0 => rhs; whnf
      have a5 := hA.2 5 (by decide)
      conv at a5 => rhs; whnf
      have a6 := hA.2 6 (by decide)
      conv at a6 => rhs; whnf
      have a7 := hA.2 7 (by decide)
      conv at a7 => rhs; whnf
      have a3 := (hA.1 3 (by decide)).trans (hx 17 _ 3 rfl rfl (by kernel_rfl))
      conv at a3 => rhs; whnf
      have hpW : p < W.heap.size := by have := hR.1.size; omega
      simp only [DepF, nthF] at D
      clear hdep hA
      go_simp
      exact hK _ _ BR rfl
     any_goals exact .inl rfl
     all_goals refine .inr ?_
     ·intro A x W f hA hR hf hf2 hx hdep _ K hK
      have g70 := gw hA hdep 2 70
      clear hdep hA
      exact wp_load_part 26 _ rfl p 0 g70 77 _ #[.int .i64 t.k, .int .i64 t.d, .int .i64 t.f, .int .i64 t.p, .int .u32 t.l, .int .i64 t.i, .slice t.ka t.kl t.kc, .slice t.sa t.sl t.sc, .slice t.pa t.pl t.pc] (0, 0) _ (rowStay HP.out hR.1) Try.underlying26 rfl (by kernel_rfl) (fun j hj => strC_tree t _ _ _ _ hj) (hK _ _ BR rfl)
     ·intro A x W f hA hR hf hf2 hx hdep _ K hK
      have g73 := gw hA hdep 5 73
      have g74 := gw hA hdep 6 74
      clear hdep hA
      go_simp
      refine (HSE2.out W hR.1).mono ?_; rintro e w5 ⟨rfl, rfl⟩
      exact hK _ _ BR rfl
     ·intro A x W f hA hR hf hf2 hx hdep D K hK
      have g71 := gw hA hdep 3 71
      have g72 := gw hA hdep 4 72
      have g75 := gw hA hdep 7 75
      have g76 := gw hA hdep 8 76
      simp only [DepF, nthF] at D
      obtain ⟨-, -, -, -, hd, -⟩ := D
      obtain ⟨du, hdu⟩ : ∃ du, A.tmps.getD 79 undef = du := ⟨_, rfl⟩
      rw [hdu] at hd
      obtain ⟨ua, un, uc, rfl⟩ := own_slice hd
      have g79 : A.tmps[79]?.getD undef = .slice ua un uc := by rw [← Array.getD_eq_getD_getElem?]; exact hdu
      have hBW := hR.1.size
      clear hdep hA hdu
      go_simp
      refine (HTC2.out W hR.1 ua un uc).mono ?_; rintro e w5 ⟨bv, kv, rfl, h1, h2, hb5⟩
      exact hK _ _ hb5 ⟨bv, kv, _, rfl, ownsRow_same' hd (fun b _ hb2 => hb5.block b hb2), ownsRow_le h1 hBW, ownsRow_le h2 hBW⟩
     ·intro A x W f hA hR hf hf2 hx hdep D K hK
      simp only [DepF, nthF] at D
      obtain ⟨⟨bv, kv, du, e8, h1, h2, h3⟩, -⟩ := D
      have g80 : A.tmps[80]?.getD undef = .agg (callC t.k bv kv true (t.outN rt) du) := by rw [← Array.getD_eq_getD_getElem?]; exact e8
      have hBW := hR.1.size
      clear hdep hA e8
      go_simp
      refine (HNC2.out W hR.1 bv kv du h2 h3 h1).mono ?_; rintro e w5 ⟨x9, rfl, ho9, hb5⟩
      exact hK _ _ hb5 ⟨x9, rfl, ho9.le hBW⟩
     ·intro A x W f hA hR hf hf2 hx hdep D K hK
      simp only [DepF, nthF] at D
      obtain ⟨⟨x9, e9, ho9⟩, -⟩ := D
      have g81 : A.tmps[81]?.getD undef = .tuple #[x9, .int .i64 0] := by rw [← Array.getD_eq_getD_getElem?]; exact e9
      clear hdep hA e9
      go_simp
      exact hK _ _ BR ⟨x9, rfl, ho9⟩
     ·intro A x W f hA hR hf hf2 hx hdep D K hK
      simp only [DepF, nthF] at D
      obtain ⟨⟨x9, e9, ho9⟩, -⟩ := D
      have g67 : A.tmps[67]?.getD undef = .tuple #[x9, .int .i64 0] := by rw [← Array.getD_eq_getD_getElem?]; exact e9
      clear hdep hA e9
      go_simp
      exact hK _ _ BR ho9
     ·intro A x W f hA hR hf hf2 hx hdep D K hK
      simp only [DepF, nthF] at D
      obtain ⟨⟨x9, e9, ho9⟩, -⟩ := D
      have g67 : A.tmps[67]?.getD undef = .tuple #[x9, .int .i64 0] := by rw [← Array.getD_eq_getD_getElem?]; exact e9
      clear hdep hA e9
      go_simp
      exact hK _ _ BR rfl
     ·intro A x W f hA hR hf hf2 hx hdep D K hK
      simp only [DepF, nthF] at D
      obtain ⟨ho9, -⟩ := D
      obtain ⟨x9, hx9⟩ : ∃ x9, A.tmps.getD 82 undef = x9 := ⟨_, rfl⟩
      rw [hx9] at ho9
      have g82 : A.tmps[82]?.getD undef = x9 := by rw [← Array.getD_eq_getD_getElem?]; exact hx9
      clear hdep hA hx9
      go_simp
      exact hK _ _ BR ho9
    ·intro A x W hA hR hx hdep K hK
     have g77 := gw hA hdep 9 77
     have g78 := gw hA hdep 10 78
     clear hdep hA
     have hB := hR.2 rfl
     refine wp_append_src2 _ _ 24 rfl w.heap.size 5 i0 (.int .u8 0) 1 Try.underlying24 hi hz0 hz1 hz2 rfl (.slice da DZ.length dc) DZ.length (DZ.map encB) g77 (ownsRow_same' HDV.out (fun g _ hg => hB.block g hg)) (.slice oa OZ.length oc) OZ.length (OZ.map encB) g78 ((HOV.out.hold.below hB).src) (by have := HLD.out; unfold maxLen; omega) (by have := HLD.out; omega) hR.1.size ?_
     intro v' w' h1 h2 h3
     rw [← List.map_append] at h1
     refine hK v' w' (fun h => by cases h) ⟨hR.1.trans ((Spare.of_grown h2).below hR.1.size (fun k hk e => by have := own_block_ge HDV.out k e; omega)), fun h => (by cases h)⟩ ⟨.inr (.inr (fun _ h => h)), .inr (.inr (fun _ h => h)), .inr (.inr (fun _ h => h)), .inr (.inr (fun _ h => h)), .inr (.inr (fun _ h => h)), .inr (.inr (fun _ h => h)), .inr (.inr (fun _ h => h)), .inr (.inr (fun _ h => h)), .inr (.inr (fun _ h => h)), .inr (.inr (fun _ h => h)), .inr (.inr (fun _ h => h)), .inl rfl, .inr (.inl (by kernel_rfl)), .inr (.inl (by kernel_rfl)), .inr (.inl (by kernel_rfl)), .inr (.inl (by kernel_rfl)), .inr (.inl (by kernel_rfl)), .inr (.inl (by kernel_rfl)), trivial⟩ h1
    intro x W hR hall
    obtain ⟨-, -, -, -, -, e1, -⟩ := hall
    change (fun u W => OwnB w.heap.size W u NZ) (x 3) W at e1
    refine thenTail_nil ?_
    simp only [layS, Act.put, List.setIfInBounds_toArray, List.set_cons_zero, List.set_cons_succ]
    generalize x 79 = Y79 at *
    generalize x 80 = Y80 at *
    generalize x 81 = Y81 at *
    generalize x 67 = Y67 at *
    generalize x 82 = Y82 at *
    generalize x 3 = Y3 at *
    have hR9 := hR.1
    have HR9 := hid hR9
    have HE9 := hid e1
    clear hR e1 hR9 HSE2 HTC2 HNC2 HDV HBV HOV
    have hw2 : IntKind.i64.wrap ((r : Int) + 1) = ((r + 1 : Nat) : Int) := by rw [IntKind.wrap_i64] <;> omega
    cases rt
    case true =>
     have hrR : r = R := by
      rcases Nat.lt_or_ge r R with h8 | h8
      ·have h9 := HTOP.out.2.2 r (by have := HR.out; omega) h8
       rw [show r - 1 = q by have := HR.out; omega, HRT.out] at h9
       cases h9
      ·have := HQ.out; omega
     have HRR := hid hrR
     clear hrR
     go_wp2_with fail
     go_ret
     exact ⟨_, rfl, by rw [HDIG.out, ← HRR.out, HEND.out]; exact HE9.out, HR9.out⟩
    have hrR : r < R := by
     rcases Nat.lt_or_ge r R with h8 | h8
     ·exact h8
     ·have h9 := HTOP.out.2.1
      have h7 : r = R := by have := HQ.out; omega
      rw [← h7, show r - 1 = q by have := HR.out; omega, HRT.out] at h9
      cases h9
    go_wp2_with fail
    exact ⟨⟨r, rfl, by omega, by rw [HEND.out]; exact HE9.out, HR9.out⟩, by simp [intOf] <;> omega⟩
end Go.Proofs.Ytchepcilkcdemaa
