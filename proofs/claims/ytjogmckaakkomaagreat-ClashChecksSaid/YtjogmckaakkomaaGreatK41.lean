/- A call's output, by the program. No condition. -/
import Derived.Test.YtjogmckaakkomaaGreatK36
import Derived.Test.YtjogmckaakkomaaGreatK40
namespace Go.Proofs.YtjogmckaakkomaaGreat
open Go.ChangeShapes Go.WideShapes Go.ChangeAt Go.RowKit Go.Joins Go.Shelf Go.Maps
attribute [local go_sem] Oper.semAt_some

/-- The cells of a call. -/
def callC (k : Int) (bv kv : Value) (la : Bool) (o : Int) (dv : Value) : Array Value := #[.int .i64 k, bv, kv, .bool la, .int .i64 o, dv]
/-- A block in one of the two forms. -/
def okB (big : Bool) (bs : List Int) : Prop := okD big false bs ∨ okD big true bs
theorem okB_len {big : Bool} {bs : List Int} (h : okB big bs) : bs.length = mB big := by rcases h with h | h <;> exact h.1
/-- The key's length is wrong. -/
def keyBad (bs kz : List Int) : Bool := decide (kz.length ≠ 0 ∧ (kz.length : Int) ≠ nthz bs 1)
theorem keyBad_eq (bs kz : List Int) : keyBad bs kz = (((kz.length : Int) != 0) && ((kz.length : Int) != nthz bs 1)) := by
 unfold keyBad
 rw [Bool.eq_iff_iff]
 simp only [decide_eq_true_eq, Bool.and_eq_true, bne_iff_ne, ne_eq]
 omega
theorem key_len {big : Bool} {bs kz : List Int} (h : okB big bs) (hk : keyBad bs kz = false) : kz.length ≤ mB big := by
 unfold keyBad at hk
 have h1 := of_decide_eq_false hk
 have h2 : 0 ≤ nthz bs 1 ∧ nthz bs 1 ≤ (mB big : Nat) := by
  rcases h with h | h
  ·exact h.2.2.2.2.1
  ·exact h.2.2.2.2.1
 omega
/-- A call's error. -/
def callN (big : Bool) (bs kz : List Int) (o n : Int) : Prop :=
 (¬ okB big bs ∧ n = 4) ∨ (okB big bs ∧ keyBad bs kz = true ∧ n = 8) ∨ (okB big bs ∧ keyBad bs kz = false ∧ (o < 1 ∨ (mB big : Nat) < o) ∧ n = 1) ∨ (okB big bs ∧ keyBad bs kz = false ∧ ¬ (o < 1 ∨ (mB big : Nat) < o) ∧ n = 0)
theorem callN_same {big : Bool} {bs kz : List Int} {o n m : Int} (h : callN big bs kz o n) (k : callN big bs kz o m) : n = m := by
 rcases h with ⟨h1, rfl⟩ | ⟨h1, h2, rfl⟩ | ⟨h1, h2, h3, rfl⟩ | ⟨h1, h2, h3, rfl⟩ <;> rcases k with ⟨k1, rfl⟩ | ⟨k1, k2, rfl⟩ | ⟨k1, k2, k3, rfl⟩ | ⟨k1, k2, k3, rfl⟩ <;> first | rfl | exact absurd h1 k1 | exact absurd k1 h1 | exact absurd h3 k3 | exact absurd k3 h3 | (rw [h2] at k2; cases k2; done)
/-- A call's output. -/
def callR (big : Bool) (bs kz : List Int) (la : Bool) (o : Int) (ds : List Int) : List Int := (outZ big (h0Z big bs) (keyZ (bB big) kz ++ ds) la).take o.toNat
/-- What a call answers. -/
def CallIs (big : Bool) (bs kz : List Int) (la : Bool) (o : Int) (ds : List Int) (w : World) (e : Ending) (w' : World) : Prop :=
 (∃ v n, e = .returned (.tuple #[v, .int .i64 n]) ∧ callN big bs kz o n ∧ (n ≠ 0 → v = .slice none 0 0) ∧ (n = 0 → Fresh w.heap.size w' v (callR big bs kz la o ds))) ∧ Below w.heap.size w w'
theorem dec_cells {bs : List Int} {p : Value} {n : Int} (h1 : n = 0 → ∃ fo dp lf ofs xo nd inr sa pe, p = parV (nthz bs 0) (nthz bs 1) fo dp lf ofs xo nd inr sa pe ∧ sa.oneCell' = true ∧ pe.oneCell' = true) (h2 : n ≠ 0 → p = .agg zeroP) :
  ∃ cs, p = .agg cs ∧ cs.size = 11 ∧ cs.all (·.oneCell') = true ∧ (n = 0 → cs[0]? = some (.int .i64 (nthz bs 0)) ∧ cs[1]? = some (.int .i64 (nthz bs 1))) := by
 by_cases hn : n = 0
 ·obtain ⟨fo, dp, lf, ofs, xo, nd, inr, sa, pe, rfl, h3, h4⟩ := h1 hn
  exact ⟨_, rfl, rfl, by simp only [List.all_toArray, List.all_cons, List.all_nil, h3, h4]; rfl, fun _ => ⟨rfl, rfl⟩⟩
 ·exact ⟨zeroP, h2 hn, rfl, by simp [zeroP, Value.oneCell'], fun h => absurd h hn⟩
theorem eng_but {big : Bool} {w w' : World} {p q : Nat} {hv : Value} {h0 msg : List Int} {c : Array Value} {T : TypeId} {fr : Nat × Nat} (h : EngAt big w p hv h0 msg) (hb : But q w w') (hq : w.heap[q]? = some (.cells c T fr)) (h1 : T ≠ 159) (h2 : T ≠ 167) (h3 : T ≠ 5) : EngAt big w' p hv h0 msg := by
 refine ⟨?_, own_but h.2 hb hq h3⟩
 rw [hb.block p (Array.getElem?_eq_some_iff.1 h.1).1 ?_]; exact h.1
 rintro rfl
 have h4 := h.1
 rw [hq] at h4
 simp only [Option.some.injEq, Obj.cells.injEq] at h4
 cases big
 ·exact h2 h4.2.1
 ·exact h1 h4.2.1
theorem eng_held_ne {big : Bool} {w : World} {p q : Nat} {hv : Value} {h0 msg : List Int} {c : Array Value} {T : TypeId} {fr : Nat × Nat} (h : EngAt big w p hv h0 msg) (hq : w.heap[q]? = some (.cells c T fr)) (h3 : T ≠ 5) : hv.ownBlock ≠ some q := fun e => own_ne h.2 hq h3 e.symm
/-- Behind the two decodings. -/
def DecAt (big : Bool) (bs : List Int) (b0 p4 : Nat) (cc : Array Value) (w : World) (u : Value) (W : World) : Prop :=
 ∃ n : Int, u = .int .i64 n ∧ (n = 0 ↔ okB big bs) ∧ ∃ cs, W.heap[p4]? = some (.cells cs 76 (0, 0)) ∧ (n = 0 → cs[0]? = some (.int .i64 (nthz bs 0)) ∧ cs[1]? = some (.int .i64 (nthz bs 1))) ∧ W.heap[b0]? = some (.cells cc 25 (0, 0)) ∧ Below b0 w W ∧ p4 < W.heap.size
set_option maxRecDepth 100000 in
set_option maxHeartbeats 4000000 in
theorem call_true (bs kz ds : List Int) (la : Bool) (o : Int) (bv kv dv : Value) (w : World) (hB : Hold w bv bs) (hK : Hold w kv kz) (hD : Hold w dv ds) (hdl : (ds.length : Int) ≤ 140737488355200) :
  Calls Tryz.prog 27 #[.agg (callC 1 bv kv la o dv)] w fun e w' => CallIs true bs kz la o ds w e w' := by
 obtain ⟨b0, hb0⟩ : ∃ b0, w.heap.size = b0 := ⟨_, rfl⟩
 obtain ⟨ka, kc, rfl, hkc1, hkc2⟩ := hK.slice
 have hbA : Below b0 w (w.alloc (.cells #[.int .i64 1, bv, .slice ka kz.length kc, .bool la, .int .i64 o, dv] 25)) := by rw [← hb0]; exact (Below.refl _ _).alloc (Nat.le_refl _) _
 have hrA := World.alloc_heap_new w (.cells #[.int .i64 1, bv, .slice ka kz.length kc, .bool la, .int .i64 o, dv] 25)
 rw [hb0] at hrA
 have hBA := hB.below (hb0 ▸ hbA)
 have HB := Lib.hid hB
 have HK := Lib.hid hK
 have HD := Lib.hid hD
 have HDL := Lib.hid hdl
 clear hB hK hD hdl hkc1 hkc2
 show Calls _ _ #[.agg #[.int .i64 1, bv, .slice ka kz.length kc, .bool la, .int .i64 o, dv]] _ _
 go_enter Tryz.func27, Tryz.ntmps27
 go_wp2_with fail
 generalize w.alloc (.cells #[.int .i64 1, bv, .slice ka kz.length kc, .bool la, .int .i64 o, dv] 25) = wA at *
 refine (decode_any true false bs bv wA hBA.holds8 hBA.1 (fun a n c e => by obtain ⟨a', c', e', h1, h2⟩ := hBA.slice; rw [e'] at e; simp only [Value.slice.injEq] at e; obtain ⟨-, rfl, rfl⟩ := e; exact ⟨h1, h2⟩)).mono ?_; rintro e w1 ⟨⟨pv, n1, rfl, hn1, hp1, hz1⟩, hb1⟩
 obtain ⟨cs, rfl, hc1, hc2, hc3⟩ := dec_cells hp1 hz1
 have hr1 := rowStay hrA hb1
 have hs1 := hb1.size
 have hb01 : b0 < wA.heap.size := (Array.getElem?_eq_some_iff.1 hrA).1
 have hbB : Below b0 w w1 := hbA.trans (hb1.mono (by omega))
 have HN1 := Lib.hid hn1
 have HC2 := Lib.hid hc2
 have HC3 := Lib.hid hc3
 have HR1 := Lib.hid hr1
 have HBB := Lib.hid hbB
 have HC1 := Lib.hid hc1
 clear hn1 hc2 hc3 hr1 hbB hp1 hz1 hb1 hbA hrA hBA hc1
 go_upto_if 24 with ((with_reducible show wpList _ _ _ (Oper.mk none (Op.store 76 _ _) _ _ _ _ :: _) _ _); refine wpList_store_row rfl 76 _ _ rfl w1.heap.size cs rfl rfl 76 _ (World.alloc_heap_new _ _) (by rw [HC1.out]; kernel_rfl) (by rw [HC1.out]; rfl) HC2.out ?_)
 refine letterW ?_
 intro W hW
 obtain ⟨p4, hp4⟩ : ∃ p4, w1.heap.size = p4 := ⟨_, rfl⟩
 have hr2 : W.heap[p4]? = some (.cells cs 76 (0, 0)) := by rw [hW, ← hp4]; exact setRow_heap _ _ _ _ _ _ (World.alloc_heap_new _ _)
 have hr3 : W.heap[b0]? = some (.cells #[.int .i64 1, bv, .slice ka kz.length kc, .bool la, .int .i64 o, dv] 25 (0, 0)) := by rw [hW]; exact (setRow_other (w1.alloc _) _ _ _ (by omega)).trans ((Below.heap_alloc _ _ _ (by omega)).trans HR1.out)
 have hbC : Below b0 w W := by rw [hW]; exact below_setRow (HBB.out.alloc (by omega) _) (by omega) _
 rw [hp4]
 have hp4b : b0 < p4 := by omega
 clear hW hp4 HR1 HBB hs1 hb01
 have hWs : p4 < W.heap.size := (Array.getElem?_eq_some_iff.1 hr2).1
 have hBW := HB.out.below (hb0 ▸ hbC)
 have HR2 := Lib.hid hr2
 have HR3 := Lib.hid hr3
 have HBC := Lib.hid hbC
 have HBW := Lib.hid hBW
 have c30 : W.cell? ⟨b0, 0, none⟩ = some (.int .i64 1) := cell_of_heap hr3 0
 have c31 : W.cell? ⟨b0, 1, none⟩ = some bv := cell_of_heap hr3 1
 clear hr2 hr3 hbC hBW
 go_cut [5] from 7 (fun u W' => DecAt true bs b0 p4 #[.int .i64 1, bv, .slice ka kz.length kc, .bool la, .int .i64 o, dv] w u W')
 case first =>
  by_cases hn : n1 = 0
  case pos =>
   subst hn
   go_wp2
   go_meet
   case rel => exact ⟨0, rfl, ⟨fun _ => .inl (HN1.out.1 (by trivial)), fun _ => rfl⟩, cs, HR2.out, fun _ => HC3.out (by trivial), HR3.out, HBC.out, hWs⟩
  have hq : (n1 != 0) = true := by rw [bne_iff_ne]; exact hn
  have HQ := Lib.hid hn
  clear hn
  go_wp2_with fail
  refine (decode_any true true bs bv W HBW.out.holds8 HBW.out.1 (fun a n c e => by obtain ⟨a', c', e', h1, h2⟩ := HBW.out.slice; rw [e'] at e; simp only [Value.slice.injEq] at e; obtain ⟨-, rfl, rfl⟩ := e; exact ⟨h1, h2⟩)).mono ?_; rintro e w2 ⟨⟨pv, n2, rfl, hn2, hp2, hz2⟩, hb2⟩
  obtain ⟨cs2, rfl, hd1, hd2, hd3⟩ := dec_cells hp2 hz2
  have hr4 := rowStay HR2.out hb2
  have hr5 := rowStay HR3.out hb2
  have hs2 := hb2.size
  have hbD : Below b0 w w2 := HBC.out.trans (hb2.mono (by omega))
  have HN2 := Lib.hid hn2
  have HD2 := Lib.hid hd2
  have HD3 := Lib.hid hd3
  have HR4 := Lib.hid hr4
  have HR5 := Lib.hid hr5
  have HBD := Lib.hid hbD
  have HD1 := Lib.hid hd1
  clear hn2 hd2 hd3 hr4 hr5 hbD hp2 hz2 hb2 hd1 hq c30 c31
  go_wp2_with ((with_reducible show wpList _ _ _ (Oper.mk none (Op.store 76 _ _) _ _ _ _ :: _) _ _); refine wpList_store_row rfl 76 _ _ rfl p4 cs2 rfl rfl 76 _ HR4.out (by rw [HD1.out]; kernel_rfl) (by rw [HD1.out, HC1.out]) HD2.out ?_)
  go_meet
  case rel => exact ⟨n2, rfl, ⟨fun h => .inr (HN2.out.1 h), fun h => HN2.out.2 (h.resolve_left (fun h => HQ.out (HN1.out.2 h)))⟩, cs2, setRow_heap _ _ _ _ _ _ HR4.out, HD3.out, (setRow_other _ _ _ _ (by omega)).trans HR5.out, below_setRow HBD.out (by omega) _, by simp; omega⟩
 case rest =>
  clear c30 c31 HBW HBC HR3 HR2 hWs HC1 HC2 HC3 HN1
  obtain ⟨n, rfl, hn, cp, hr2, hc3, hr3, hbC, hWs⟩ := hcut
  have HN := Lib.hid hn
  have HR2 := Lib.hid hr2
  have HR3 := Lib.hid hr3
  have HBC := Lib.hid hbC
  by_cases hn0 : n = 0
  case neg =>
   have hq : (n != 0) = true := by rw [bne_iff_ne]; exact hn0
   have HN0 := Lib.hid hn0
   clear hn0 hn hr2 hr3 hbC hc3
   go_wp2
   go_ret2
   exact ⟨⟨_, 4, rfl, .inl ⟨fun h => HN0.out (HN.out.2 h), rfl⟩, fun _ => rfl, fun h => by simp at h⟩, by rw [hb0]; exact HBC.out⟩
  subst hn0
  obtain ⟨hd0, hd1⟩ := hc3 rfl
  have hok := hn.1 rfl
  have c40 : wc.cell? ⟨p4, 0, none⟩ = some (.int .i64 (nthz bs 0)) := (cell_of_heap hr2 0).trans hd0
  have c41 : wc.cell? ⟨p4, 1, none⟩ = some (.int .i64 (nthz bs 1)) := (cell_of_heap hr2 1).trans hd1
  have c30 : wc.cell? ⟨b0, 0, none⟩ = some (.int .i64 1) := cell_of_heap hr3 0
  have c31 : wc.cell? ⟨b0, 1, none⟩ = some (bv) := cell_of_heap hr3 1
  have c32 : wc.cell? ⟨b0, 2, none⟩ = some (.slice ka kz.length kc) := cell_of_heap hr3 2
  have hb0s : b0 < wc.heap.size := (Array.getElem?_eq_some_iff.1 hr3).1
  have hkl : keyBad bs kz = false → kz.length ≤ 64 := fun h => key_len hok h
  obtain ⟨ky, hky⟩ : ∃ ky, nthz bs 1 = ky := ⟨_, rfl⟩
  obtain ⟨dg, hdg⟩ : ∃ dg, nthz bs 0 = dg := ⟨_, rfl⟩
  obtain ⟨q0, hq0⟩ : ∃ q, ((kz.length : Int) != 0) = q := ⟨_, rfl⟩
  obtain ⟨q1, hq1⟩ : ∃ q, ((kz.length : Int) != ky) = q := ⟨_, rfl⟩
  have hkb : keyBad bs kz = (q0 && q1) := by rw [← hq0, ← hq1, ← hky]; exact keyBad_eq bs kz
  rw [hky] at c41
  rw [hdg] at c40
  have HLB := Lib.hid (okB_len hok)
  have HKB := Lib.hid hkb
  have HOK := Lib.hid hok
  have HKL := Lib.hid hkl
  clear hr2 hr3 hbC hn hc3 hd0 hd1 hok hkb hky hdg hkl HN HR2
  go_upto_region 8 with (fail)
  go_cut [46] from 7 (fun u W' => u = .bool (keyBad bs kz) ∧ wc = W')
  case first =>
   cases q0 <;> cases q1
   all_goals
    go_wp2
    go_meet
    case rel => exact ⟨by rw [HKB.out]; rfl, by trivial⟩
  case rest =>
   clear hq0 hq1 c41
   obtain ⟨rfl, rfl⟩ := hcut
   have HKB2 := HKB
   clear HKB
   obtain ⟨kb, hkb⟩ : ∃ kb, keyBad bs kz = kb := ⟨_, rfl⟩
   rw [hkb]
   have HKB := Lib.hid hkb
   clear hkb HKB2
   cases kb
   case true =>
    go_wp2
    go_ret2
    exact ⟨⟨_, 8, rfl, .inr (.inl ⟨HOK.out, HKB.out, rfl⟩), fun _ => rfl, fun h => by simp at h⟩, by rw [hb0]; exact HBC.out⟩
   have hMD := made_true bs kz dg bv (.slice ka kz.length kc) wc (HB.out.below (hb0 ▸ HBC.out)) (HK.out.below (hb0 ▸ HBC.out)) HLB.out (HKL.out HKB.out)
   have HMD := Lib.hid hMD
   clear hMD
   go_wp2_with fail
   refine HMD.out.mono ?_; rintro e w3 ⟨np, p, hv, bv', kv', rfl, m1, m2, m3, m4, m5, m6⟩
   have hq3 := rowStay HR3.out m6
   have hb3 : Below b0 w w3 := HBC.out.trans (m6.mono (by omega))
   have hs3 := m6.size
   have c43 : w3.cell? ⟨b0, 3, none⟩ = some (.bool la) := cell_of_heap hq3 3
   have c44 : w3.cell? ⟨np, 4, none⟩ = some (.bool false) := cell_of_heap m3 4
   have f44 := frozen_of_row w3 np 4 _ _ m3
   have hb0s3 : b0 < w3.heap.size := by omega
   have hnps : np < w3.heap.size := (Array.getElem?_eq_some_iff.1 m3).1
   have hpn : b0 < np ∧ b0 < p := by omega
   obtain ⟨hpn1, hpn2⟩ := hpn
   have hbut : But np w3 (w3.setCell ⟨np, 4, none⟩ (.bool la)) := (But.refl np w3).set 4 _
   have hn4 := node_last (b := la) m3
   have he4 := eng_but m4 hbut m3 (by decide) (by decide) (by decide)
   have hc4 := (hbut.block b0 hb0s3 (by omega)).trans hq3
   have hb4 : Below b0 w (w3.setCell ⟨np, 4, none⟩ (.bool la)) := hb3.trans (hbut.below (by omega) (by omega))
   have hpnp : p ≠ np := fun e => by have h1 := m4.1; rw [e, m3] at h1; simp only [cond, Option.some.injEq, Obj.cells.injEq] at h1; exact absurd h1.2.1 (by decide)
   have m5' : ∀ g, hv.ownBlock = some g → b0 < g := fun g hg => by have := m5 g hg; omega
   have HN4 := Lib.hid hn4
   have HE4 := Lib.hid he4
   have HC4 := Lib.hid hc4
   have HB4 := Lib.hid hb4
   have HM5 := Lib.hid m5'
   have hs4 : (w3.setCell ⟨np, 4, none⟩ (.bool la)).heap.size = w3.heap.size := by simp [World.setCell]
   rw [← hs4] at hnps hb0s3
   clear hq3 hb3 m1 m2 m3 m4 m5 m5' m6 hbut hn4 he4 hc4 hb4 hs3 hs4 HR3 HBC HMD c30 c31 c32 hb0s c40 hWs
   go_upto_region 12 with (fail)
   generalize w3.setCell ⟨np, 4, none⟩ (.bool la) = W4 at *
   clear c43 c44 f44 w3 wc
   refine wp_region_one (fun f W => W.heap[np]? = some (.cells (nodeC 1 dg bv' kv' la 0 (.iface 153 (.pointer (some ⟨p, 0, none⟩)))) 84 (0, 0)) ∧ W.heap[b0]? = some (.cells #[.int .i64 1, bv, .slice ka kz.length kc, .bool la, .int .i64 o, dv] 25 (0, 0)) ∧ (f = false → Below W4.heap.size W4 W) ∧ (f = true → Spare (FreeOf p hv) W4 W ∧ ∃ hv', EngAt true W p hv' (h0Z true bs) (keyZ 128 kz ++ ds))) 6 [61, 62, 63, 64, 65, 66, 67] [.own (vl (.pointer (some ⟨np, 0, none⟩))), .own (vl (.pointer (some ⟨np, 0, none⟩))), .own (vl (.pointer (some ⟨np, 6, none⟩))), .own (vl (.iface 153 (.pointer (some ⟨p, 0, none⟩)))), .own (vl (.pointer (some ⟨b0, 5, none⟩))), .own (vl dv), .own (fun _ _ => True)] rfl (by rfl) (by decide) (by kernel_rfl) (by rfl) (by kernel_rfl) (by decide) (by kernel_rfl) ⟨HN4.out, HC4.out, fun _ => (Below.refl _ _).drew, fun h => (by cases h)⟩ (fun f W W' h hb => ⟨rowStay h.1 hb, rowStay h.2.1 hb, fun e => (h.2.2.1 e).trans (hb.mono (h.2.2.1 e).size), fun e => by obtain ⟨h1, hv', h2⟩ := h.2.2.2 e; exact ⟨h1.trans (Spare.of_below _ hb) (fun _ _ h => h), hv', eng_below h2 hb⟩⟩) ?_ ?_ ?_
   ·exact ⟨kW, kW, kW, kW, kW, kW, kW, trivial⟩
   ·refine eachO_cons (.inl ⟨rfl, ?_⟩) (eachO_cons (.inl ⟨rfl, ?_⟩) (eachO_cons (.inl ⟨rfl, ?_⟩) (eachO_cons (.inl ⟨rfl, ?_⟩) (eachO_cons (.inl ⟨rfl, ?_⟩) (eachO_cons (.inl ⟨rfl, ?_⟩) (eachO_cons (.inr ⟨rfl, ?_⟩) (eachO_nil)))))))
    ·intro A x W f hA hR hf hdep K hK
     have a6 := hA.2 6 (by decide)
     conv at a6 => rhs; whnf
     clear hdep hA
     go_simp
     exact hK _ _ BR rfl
    ·intro A x W f hA hR hf hdep K hK
     have g61 := gw hA hdep 0 61
     clear hdep hA
     go_simp
     exact hK _ _ BR rfl
    ·intro A x W f hA hR hf hdep K hK
     have g62 := gw hA hdep 1 62
     clear hdep hA
     go_simp
     exact hK _ _ BR rfl
    ·intro A x W f hA hR hf hdep K hK
     have g63 := gw hA hdep 2 63
     clear hdep hA
     have c0 : W.cell? ⟨np, 6, none⟩ = some (.iface 153 (.pointer (some ⟨p, 0, none⟩))) := cell_of_heap hR.1 6
     go_simp
     exact hK _ _ BR rfl
    ·intro A x W f hA hR hf hdep K hK
     have a1 := hA.2 1 (by decide)
     conv at a1 => rhs; whnf
     clear hdep hA
     go_simp
     exact hK _ _ BR rfl
    ·intro A x W f hA hR hf hdep K hK
     have g65 := gw hA hdep 4 65
     clear hdep hA
     have c0 : W.cell? ⟨b0, 5, none⟩ = some dv := cell_of_heap hR.2.1 5
     go_simp
     exact hK _ _ BR rfl
    ·intro A x W hA hR hdep K hK
     have g64 := gw hA hdep 3 64
     have g66 := gw hA hdep 5 66
     clear hdep hA
     have hB := hR.2.2.1 rfl
     go_simp
     refine upon_method (f := 175) (by kernel_rfl) ?_
     go_simp
     have hDW : Hold W dv ds := HD.out.below (hb0 ▸ HB4.out.trans (hB.mono (by omega)))
     refine (write_true (h0Z true bs) (keyZ 128 kz) ds (h0Z_words true bs) (keyZ_bounds HK.out.1) p hv dv W (eng_below HE4.out hB) hDW (fun hne b hb => ⟨fun e => by have := hold_own HD.out hne hb; omega, fun e => by have := hold_own HD.out hne hb; have := HM5.out b e; omega⟩) (by have := keyZ_length (n := 128) (key := kz) (by have := HKL.out HKB.out; omega); have := HDL.out; omega)).mono ?_
     rintro e w' ⟨rfl, ⟨hv', hE', -⟩, hS'⟩
     refine hK _ _ (fun h => by cases h) ⟨(hS'.block np (Array.getElem?_eq_some_iff.1 hR.1).1 ⟨fun e => hpnp e.symm, eng_held_ne (eng_below HE4.out hB) hR.1 (by decide)⟩).trans hR.1, (hS'.block b0 (Array.getElem?_eq_some_iff.1 hR.2.1).1 ⟨by omega, fun e => by have := HM5.out b0 e; omega⟩).trans hR.2.1, fun h => (by cases h), fun _ => ⟨(Spare.of_below _ hB).trans hS' (fun _ _ h => h), hv', hE'⟩⟩ ⟨.inr (fun _ h => h), .inr (fun _ h => h), .inr (fun _ h => h), .inr (fun _ h => h), .inr (fun _ h => h), .inr (fun _ h => h), .inl rfl, trivial⟩ trivial
   intro x W hR hall
   obtain ⟨e61, e62, e63, e64, e65, e66, e67, -⟩ := hall
   change x 61 = (.pointer (some ⟨np, 0, none⟩) : Value) at e61
   change x 62 = (.pointer (some ⟨np, 0, none⟩) : Value) at e62
   change x 63 = (.pointer (some ⟨np, 6, none⟩) : Value) at e63
   change x 64 = (.iface 153 (.pointer (some ⟨p, 0, none⟩)) : Value) at e64
   change x 65 = (.pointer (some ⟨b0, 5, none⟩) : Value) at e65
   change x 66 = (dv : Value) at e66
   change ((fun _ _ => True)) (x 67) W at e67
   simp only [lay, Act.put, List.setIfInBounds_toArray, List.set_cons_zero, List.set_cons_succ, e61, e62, e63, e64, e65, e66]
   clear e61 e62 e63 e64 e65 e66
   obtain ⟨hn9, hc9, -, h9⟩ := hR
   obtain ⟨hs9, hv9, hE9⟩ := h9 rfl
   have hb9 : Below b0 w W := HB4.out.trans (hs9.below (by omega) (fun k hk => ⟨by omega, fun e => by have := HM5.out k e; omega⟩))
   have c94 : W.cell? ⟨b0, 4, none⟩ = some (.int .i64 o) := cell_of_heap hc9 4
   have hb09 : b0 < W.heap.size := (Array.getElem?_eq_some_iff.1 hc9).1
   have HN9 := Lib.hid hn9
   have HE9 := Lib.hid hE9
   have HB9 := Lib.hid hb9
   clear hn9 hc9 h9 hs9 hE9 hb9 e67 HN4 HE4 HC4 HB4
   go_wp2_with fail
   by_cases ho : o < 1 ∨ 64 < o
   case pos =>
    have HO := Lib.hid ho
    refine (nodeOut_no_true np p dg 0 o la bv' kv' _ HN9.out ho).mono ?_; rintro e w5 ⟨rfl, hb5⟩
    clear ho
    have hb6 : Below b0 w w5 := HB9.out.trans (hb5.mono (by omega))
    clear hb5
    go_wp2
    go_ret2
    exact ⟨⟨_, 1, rfl, .inr (.inr (.inl ⟨HOK.out, HKB.out, HO.out, rfl⟩)), fun _ => rfl, fun h => by simp at h⟩, by rw [hb0]; exact hb6⟩
   obtain ⟨m, hm⟩ : ∃ m : Nat, o = (m : Int) := ⟨o.toNat, by omega⟩
   have hm1 : 1 ≤ m ∧ m ≤ 64 := by omega
   have HO := Lib.hid ho
   clear ho
   subst hm
   have hlen : (((keyZ 128 kz) ++ ds).length : Int) ≤ 281474976710656 := by
    have := keyZ_length (n := 128) (key := kz) (by have := HKL.out HKB.out; omega)
    have := HDL.out
    rw [List.length_append]; omega
   have hmz : ∀ z ∈ keyZ 128 kz ++ ds, 0 ≤ z ∧ z ≤ 255 := fun z hz => by
    rcases List.mem_append.1 hz with hz | hz
    ·exact keyZ_bounds HK.out.1 z hz
    ·exact HD.out.1 z hz
   refine (nodeOut_true (h0Z true bs) (keyZ 128 kz ++ ds) (h0Z_words true bs) hmz np p m dg 0 la bv' kv' hv9 _ HN9.out HE9.out hlen hm1.1 hm1.2).mono ?_; rintro e w5 ⟨⟨v5, rfl, hf5⟩, hb5⟩
   have HF5 := Lib.hid (show Fresh w.heap.size w5 v5 (callR true bs kz la (m : Nat) ds) from by have h := hf5.le (b' := w.heap.size) (by omega); unfold callR; exact h)
   have HB6 := Lib.hid (show Below b0 w w5 from HB9.out.trans (hb5.mono (by omega)))
   clear hf5 hb5 hlen hmz hm1
   go_wp2
   go_ret2
   exact ⟨⟨_, 0, rfl, .inr (.inr (.inr ⟨HOK.out, HKB.out, HO.out, rfl⟩)), fun h => absurd rfl h, fun _ => HF5.out⟩, by rw [hb0]; exact HB6.out⟩
set_option maxRecDepth 100000 in
set_option maxHeartbeats 4000000 in
theorem call_false (bs kz ds : List Int) (la : Bool) (o : Int) (bv kv dv : Value) (w : World) (hB : Hold w bv bs) (hK : Hold w kv kz) (hD : Hold w dv ds) (hdl : (ds.length : Int) ≤ 140737488355200) :
  Calls Tryz.prog 27 #[.agg (callC 2 bv kv la o dv)] w fun e w' => CallIs false bs kz la o ds w e w' := by
 obtain ⟨b0, hb0⟩ : ∃ b0, w.heap.size = b0 := ⟨_, rfl⟩
 obtain ⟨ka, kc, rfl, hkc1, hkc2⟩ := hK.slice
 have hbA : Below b0 w (w.alloc (.cells #[.int .i64 2, bv, .slice ka kz.length kc, .bool la, .int .i64 o, dv] 25)) := by rw [← hb0]; exact (Below.refl _ _).alloc (Nat.le_refl _) _
 have hrA := World.alloc_heap_new w (.cells #[.int .i64 2, bv, .slice ka kz.length kc, .bool la, .int .i64 o, dv] 25)
 rw [hb0] at hrA
 have hBA := hB.below (hb0 ▸ hbA)
 have HB := Lib.hid hB
 have HK := Lib.hid hK
 have HD := Lib.hid hD
 have HDL := Lib.hid hdl
 clear hB hK hD hdl hkc1 hkc2
 show Calls _ _ #[.agg #[.int .i64 2, bv, .slice ka kz.length kc, .bool la, .int .i64 o, dv]] _ _
 go_enter Tryz.func27, Tryz.ntmps27
 go_wp2_with fail
 generalize w.alloc (.cells #[.int .i64 2, bv, .slice ka kz.length kc, .bool la, .int .i64 o, dv] 25) = wA at *
 refine (decode_any false false bs bv wA hBA.holds8 hBA.1 (fun a n c e => by obtain ⟨a', c', e', h1, h2⟩ := hBA.slice; rw [e'] at e; simp only [Value.slice.injEq] at e; obtain ⟨-, rfl, rfl⟩ := e; exact ⟨h1, h2⟩)).mono ?_; rintro e w1 ⟨⟨pv, n1, rfl, hn1, hp1, hz1⟩, hb1⟩
 obtain ⟨cs, rfl, hc1, hc2, hc3⟩ := dec_cells hp1 hz1
 have hr1 := rowStay hrA hb1
 have hs1 := hb1.size
 have hb01 : b0 < wA.heap.size := (Array.getElem?_eq_some_iff.1 hrA).1
 have hbB : Below b0 w w1 := hbA.trans (hb1.mono (by omega))
 have HN1 := Lib.hid hn1
 have HC2 := Lib.hid hc2
 have HC3 := Lib.hid hc3
 have HR1 := Lib.hid hr1
 have HBB := Lib.hid hbB
 have HC1 := Lib.hid hc1
 clear hn1 hc2 hc3 hr1 hbB hp1 hz1 hb1 hbA hrA hBA hc1
 go_upto_if 24 with ((with_reducible show wpList _ _ _ (Oper.mk none (Op.store 76 _ _) _ _ _ _ :: _) _ _); refine wpList_store_row rfl 76 _ _ rfl w1.heap.size cs rfl rfl 76 _ (World.alloc_heap_new _ _) (by rw [HC1.out]; kernel_rfl) (by rw [HC1.out]; rfl) HC2.out ?_)
 refine letterW ?_
 intro W hW
 obtain ⟨p4, hp4⟩ : ∃ p4, w1.heap.size = p4 := ⟨_, rfl⟩
 have hr2 : W.heap[p4]? = some (.cells cs 76 (0, 0)) := by rw [hW, ← hp4]; exact setRow_heap _ _ _ _ _ _ (World.alloc_heap_new _ _)
 have hr3 : W.heap[b0]? = some (.cells #[.int .i64 2, bv, .slice ka kz.length kc, .bool la, .int .i64 o, dv] 25 (0, 0)) := by rw [hW]; exact (setRow_other (w1.alloc _) _ _ _ (by omega)).trans ((Below.heap_alloc _ _ _ (by omega)).trans HR1.out)
 have hbC : Below b0 w W := by rw [hW]; exact below_setRow (HBB.out.alloc (by omega) _) (by omega) _
 rw [hp4]
 have hp4b : b0 < p4 := by omega
 clear hW hp4 HR1 HBB hs1 hb01
 have hWs : p4 < W.heap.size := (Array.getElem?_eq_some_iff.1 hr2).1
 have hBW := HB.out.below (hb0 ▸ hbC)
 have HR2 := Lib.hid hr2
 have HR3 := Lib.hid hr3
 have HBC := Lib.hid hbC
 have HBW := Lib.hid hBW
 have c30 : W.cell? ⟨b0, 0, none⟩ = some (.int .i64 2) := cell_of_heap hr3 0
 have c31 : W.cell? ⟨b0, 1, none⟩ = some bv := cell_of_heap hr3 1
 clear hr2 hr3 hbC hBW
 go_cut [5] from 7 (fun u W' => DecAt false bs b0 p4 #[.int .i64 2, bv, .slice ka kz.length kc, .bool la, .int .i64 o, dv] w u W')
 case first =>
  by_cases hn : n1 = 0
  case pos =>
   subst hn
   go_wp2
   go_meet
   case rel => exact ⟨0, rfl, ⟨fun _ => .inl (HN1.out.1 (by trivial)), fun _ => rfl⟩, cs, HR2.out, fun _ => HC3.out (by trivial), HR3.out, HBC.out, hWs⟩
  have hq : (n1 != 0) = true := by rw [bne_iff_ne]; exact hn
  have HQ := Lib.hid hn
  clear hn
  go_wp2_with fail
  refine (decode_any false true bs bv W HBW.out.holds8 HBW.out.1 (fun a n c e => by obtain ⟨a', c', e', h1, h2⟩ := HBW.out.slice; rw [e'] at e; simp only [Value.slice.injEq] at e; obtain ⟨-, rfl, rfl⟩ := e; exact ⟨h1, h2⟩)).mono ?_; rintro e w2 ⟨⟨pv, n2, rfl, hn2, hp2, hz2⟩, hb2⟩
  obtain ⟨cs2, rfl, hd1, hd2, hd3⟩ := dec_cells hp2 hz2
  have hr4 := rowStay HR2.out hb2
  have hr5 := rowStay HR3.out hb2
  have hs2 := hb2.size
  have hbD : Below b0 w w2 := HBC.out.trans (hb2.mono (by omega))
  have HN2 := Lib.hid hn2
  have HD2 := Lib.hid hd2
  have HD3 := Lib.hid hd3
  have HR4 := Lib.hid hr4
  have HR5 := Lib.hid hr5
  have HBD := Lib.hid hbD
  have HD1 := Lib.hid hd1
  clear hn2 hd2 hd3 hr4 hr5 hbD hp2 hz2 hb2 hd1 hq c30 c31
  go_wp2_with ((with_reducible show wpList _ _ _ (Oper.mk none (Op.store 76 _ _) _ _ _ _ :: _) _ _); refine wpList_store_row rfl 76 _ _ rfl p4 cs2 rfl rfl 76 _ HR4.out (by rw [HD1.out]; kernel_rfl) (by rw [HD1.out, HC1.out]) HD2.out ?_)
  go_meet
  case rel => exact ⟨n2, rfl, ⟨fun h => .inr (HN2.out.1 h), fun h => HN2.out.2 (h.resolve_left (fun h => HQ.out (HN1.out.2 h)))⟩, cs2, setRow_heap _ _ _ _ _ _ HR4.out, HD3.out, (setRow_other _ _ _ _ (by omega)).trans HR5.out, below_setRow HBD.out (by omega) _, by simp; omega⟩
 case rest =>
  clear c30 c31 HBW HBC HR3 HR2 hWs HC1 HC2 HC3 HN1
  obtain ⟨n, rfl, hn, cp, hr2, hc3, hr3, hbC, hWs⟩ := hcut
  have HN := Lib.hid hn
  have HR2 := Lib.hid hr2
  have HR3 := Lib.hid hr3
  have HBC := Lib.hid hbC
  by_cases hn0 : n = 0
  case neg =>
   have hq : (n != 0) = true := by rw [bne_iff_ne]; exact hn0
   have HN0 := Lib.hid hn0
   clear hn0 hn hr2 hr3 hbC hc3
   go_wp2
   go_ret2
   exact ⟨⟨_, 4, rfl, .inl ⟨fun h => HN0.out (HN.out.2 h), rfl⟩, fun _ => rfl, fun h => by simp at h⟩, by rw [hb0]; exact HBC.out⟩
  subst hn0
  obtain ⟨hd0, hd1⟩ := hc3 rfl
  have hok := hn.1 rfl
  have c40 : wc.cell? ⟨p4, 0, none⟩ = some (.int .i64 (nthz bs 0)) := (cell_of_heap hr2 0).trans hd0
  have c41 : wc.cell? ⟨p4, 1, none⟩ = some (.int .i64 (nthz bs 1)) := (cell_of_heap hr2 1).trans hd1
  have c30 : wc.cell? ⟨b0, 0, none⟩ = some (.int .i64 2) := cell_of_heap hr3 0
  have c31 : wc.cell? ⟨b0, 1, none⟩ = some (bv) := cell_of_heap hr3 1
  have c32 : wc.cell? ⟨b0, 2, none⟩ = some (.slice ka kz.length kc) := cell_of_heap hr3 2
  have hb0s : b0 < wc.heap.size := (Array.getElem?_eq_some_iff.1 hr3).1
  have hkl : keyBad bs kz = false → kz.length ≤ 32 := fun h => key_len hok h
  obtain ⟨ky, hky⟩ : ∃ ky, nthz bs 1 = ky := ⟨_, rfl⟩
  obtain ⟨dg, hdg⟩ : ∃ dg, nthz bs 0 = dg := ⟨_, rfl⟩
  obtain ⟨q0, hq0⟩ : ∃ q, ((kz.length : Int) != 0) = q := ⟨_, rfl⟩
  obtain ⟨q1, hq1⟩ : ∃ q, ((kz.length : Int) != ky) = q := ⟨_, rfl⟩
  have hkb : keyBad bs kz = (q0 && q1) := by rw [← hq0, ← hq1, ← hky]; exact keyBad_eq bs kz
  rw [hky] at c41
  rw [hdg] at c40
  have HLB := Lib.hid (okB_len hok)
  have HKB := Lib.hid hkb
  have HOK := Lib.hid hok
  have HKL := Lib.hid hkl
  clear hr2 hr3 hbC hn hc3 hd0 hd1 hok hkb hky hdg hkl HN HR2
  go_upto_region 8 with (fail)
  go_cut [46] from 7 (fun u W' => u = .bool (keyBad bs kz) ∧ wc = W')
  case first =>
   cases q0 <;> cases q1
   all_goals
    go_wp2
    go_meet
    case rel => exact ⟨by rw [HKB.out]; rfl, by trivial⟩
  case rest =>
   clear hq0 hq1 c41
   obtain ⟨rfl, rfl⟩ := hcut
   have HKB2 := HKB
   clear HKB
   obtain ⟨kb, hkb⟩ : ∃ kb, keyBad bs kz = kb := ⟨_, rfl⟩
   rw [hkb]
   have HKB := Lib.hid hkb
   clear hkb HKB2
   cases kb
   case true =>
    go_wp2
    go_ret2
    exact ⟨⟨_, 8, rfl, .inr (.inl ⟨HOK.out, HKB.out, rfl⟩), fun _ => rfl, fun h => by simp at h⟩, by rw [hb0]; exact HBC.out⟩
   have hMD := made_false bs kz dg bv (.slice ka kz.length kc) wc (HB.out.below (hb0 ▸ HBC.out)) (HK.out.below (hb0 ▸ HBC.out)) HLB.out (HKL.out HKB.out)
   have HMD := Lib.hid hMD
   clear hMD
   go_wp2_with fail
   refine HMD.out.mono ?_; rintro e w3 ⟨np, p, hv, bv', kv', rfl, m1, m2, m3, m4, m5, m6⟩
   have hq3 := rowStay HR3.out m6
   have hb3 : Below b0 w w3 := HBC.out.trans (m6.mono (by omega))
   have hs3 := m6.size
   have c43 : w3.cell? ⟨b0, 3, none⟩ = some (.bool la) := cell_of_heap hq3 3
   have c44 : w3.cell? ⟨np, 4, none⟩ = some (.bool false) := cell_of_heap m3 4
   have f44 := frozen_of_row w3 np 4 _ _ m3
   have hb0s3 : b0 < w3.heap.size := by omega
   have hnps : np < w3.heap.size := (Array.getElem?_eq_some_iff.1 m3).1
   have hpn : b0 < np ∧ b0 < p := by omega
   obtain ⟨hpn1, hpn2⟩ := hpn
   have hbut : But np w3 (w3.setCell ⟨np, 4, none⟩ (.bool la)) := (But.refl np w3).set 4 _
   have hn4 := node_last (b := la) m3
   have he4 := eng_but m4 hbut m3 (by decide) (by decide) (by decide)
   have hc4 := (hbut.block b0 hb0s3 (by omega)).trans hq3
   have hb4 : Below b0 w (w3.setCell ⟨np, 4, none⟩ (.bool la)) := hb3.trans (hbut.below (by omega) (by omega))
   have hpnp : p ≠ np := fun e => by have h1 := m4.1; rw [e, m3] at h1; simp only [cond, Option.some.injEq, Obj.cells.injEq] at h1; exact absurd h1.2.1 (by decide)
   have m5' : ∀ g, hv.ownBlock = some g → b0 < g := fun g hg => by have := m5 g hg; omega
   have HN4 := Lib.hid hn4
   have HE4 := Lib.hid he4
   have HC4 := Lib.hid hc4
   have HB4 := Lib.hid hb4
   have HM5 := Lib.hid m5'
   have hs4 : (w3.setCell ⟨np, 4, none⟩ (.bool la)).heap.size = w3.heap.size := by simp [World.setCell]
   rw [← hs4] at hnps hb0s3
   clear hq3 hb3 m1 m2 m3 m4 m5 m5' m6 hbut hn4 he4 hc4 hb4 hs3 hs4 HR3 HBC HMD c30 c31 c32 hb0s c40 hWs
   go_upto_region 12 with (fail)
   generalize w3.setCell ⟨np, 4, none⟩ (.bool la) = W4 at *
   clear c43 c44 f44 w3 wc
   refine wp_region_one (fun f W => W.heap[np]? = some (.cells (nodeC 2 dg bv' kv' la 0 (.iface 163 (.pointer (some ⟨p, 0, none⟩)))) 84 (0, 0)) ∧ W.heap[b0]? = some (.cells #[.int .i64 2, bv, .slice ka kz.length kc, .bool la, .int .i64 o, dv] 25 (0, 0)) ∧ (f = false → Below W4.heap.size W4 W) ∧ (f = true → Spare (FreeOf p hv) W4 W ∧ ∃ hv', EngAt false W p hv' (h0Z false bs) (keyZ 64 kz ++ ds))) 6 [61, 62, 63, 64, 65, 66, 67] [.own (vl (.pointer (some ⟨np, 0, none⟩))), .own (vl (.pointer (some ⟨np, 0, none⟩))), .own (vl (.pointer (some ⟨np, 6, none⟩))), .own (vl (.iface 163 (.pointer (some ⟨p, 0, none⟩)))), .own (vl (.pointer (some ⟨b0, 5, none⟩))), .own (vl dv), .own (fun _ _ => True)] rfl (by rfl) (by decide) (by kernel_rfl) (by rfl) (by kernel_rfl) (by decide) (by kernel_rfl) ⟨HN4.out, HC4.out, fun _ => (Below.refl _ _).drew, fun h => (by cases h)⟩ (fun f W W' h hb => ⟨rowStay h.1 hb, rowStay h.2.1 hb, fun e => (h.2.2.1 e).trans (hb.mono (h.2.2.1 e).size), fun e => by obtain ⟨h1, hv', h2⟩ := h.2.2.2 e; exact ⟨h1.trans (Spare.of_below _ hb) (fun _ _ h => h), hv', eng_below h2 hb⟩⟩) ?_ ?_ ?_
   ·exact ⟨kW, kW, kW, kW, kW, kW, kW, trivial⟩
   ·refine eachO_cons (.inl ⟨rfl, ?_⟩) (eachO_cons (.inl ⟨rfl, ?_⟩) (eachO_cons (.inl ⟨rfl, ?_⟩) (eachO_cons (.inl ⟨rfl, ?_⟩) (eachO_cons (.inl ⟨rfl, ?_⟩) (eachO_cons (.inl ⟨rfl, ?_⟩) (eachO_cons (.inr ⟨rfl, ?_⟩) (eachO_nil)))))))
    ·intro A x W f hA hR hf hdep K hK
     have a6 := hA.2 6 (by decide)
     conv at a6 => rhs; whnf
     clear hdep hA
     go_simp
     exact hK _ _ BR rfl
    ·intro A x W f hA hR hf hdep K hK
     have g61 := gw hA hdep 0 61
     clear hdep hA
     go_simp
     exact hK _ _ BR rfl
    ·intro A x W f hA hR hf hdep K hK
     have g62 := gw hA hdep 1 62
     clear hdep hA
     go_simp
     exact hK _ _ BR rfl
    ·intro A x W f hA hR hf hdep K hK
     have g63 := gw hA hdep 2 63
     clear hdep hA
     have c0 : W.cell? ⟨np, 6, none⟩ = some (.iface 163 (.pointer (some ⟨p, 0, none⟩))) := cell_of_heap hR.1 6
     go_simp
     exact hK _ _ BR rfl
    ·intro A x W f hA hR hf hdep K hK
     have a1 := hA.2 1 (by decide)
     conv at a1 => rhs; whnf
     clear hdep hA
     go_simp
     exact hK _ _ BR rfl
    ·intro A x W f hA hR hf hdep K hK
     have g65 := gw hA hdep 4 65
     clear hdep hA
     have c0 : W.cell? ⟨b0, 5, none⟩ = some dv := cell_of_heap hR.2.1 5
     go_simp
     exact hK _ _ BR rfl
    ·intro A x W hA hR hdep K hK
     have g64 := gw hA hdep 3 64
     have g66 := gw hA hdep 5 66
     clear hdep hA
     have hB := hR.2.2.1 rfl
     go_simp
     refine upon_method (f := 181) (by kernel_rfl) ?_
     go_simp
     have hDW : Hold W dv ds := HD.out.below (hb0 ▸ HB4.out.trans (hB.mono (by omega)))
     refine (write_false (h0Z false bs) (keyZ 64 kz) ds (h0Z_words false bs) (keyZ_bounds HK.out.1) p hv dv W (eng_below HE4.out hB) hDW (fun hne b hb => ⟨fun e => by have := hold_own HD.out hne hb; omega, fun e => by have := hold_own HD.out hne hb; have := HM5.out b e; omega⟩) (by have := keyZ_length (n := 64) (key := kz) (by have := HKL.out HKB.out; omega); have := HDL.out; omega)).mono ?_
     rintro e w' ⟨rfl, ⟨hv', hE', -⟩, hS'⟩
     refine hK _ _ (fun h => by cases h) ⟨(hS'.block np (Array.getElem?_eq_some_iff.1 hR.1).1 ⟨fun e => hpnp e.symm, eng_held_ne (eng_below HE4.out hB) hR.1 (by decide)⟩).trans hR.1, (hS'.block b0 (Array.getElem?_eq_some_iff.1 hR.2.1).1 ⟨by omega, fun e => by have := HM5.out b0 e; omega⟩).trans hR.2.1, fun h => (by cases h), fun _ => ⟨(Spare.of_below _ hB).trans hS' (fun _ _ h => h), hv', hE'⟩⟩ ⟨.inr (fun _ h => h), .inr (fun _ h => h), .inr (fun _ h => h), .inr (fun _ h => h), .inr (fun _ h => h), .inr (fun _ h => h), .inl rfl, trivial⟩ trivial
   intro x W hR hall
   obtain ⟨e61, e62, e63, e64, e65, e66, e67, -⟩ := hall
   change x 61 = (.pointer (some ⟨np, 0, none⟩) : Value) at e61
   change x 62 = (.pointer (some ⟨np, 0, none⟩) : Value) at e62
   change x 63 = (.pointer (some ⟨np, 6, none⟩) : Value) at e63
   change x 64 = (.iface 163 (.pointer (some ⟨p, 0, none⟩)) : Value) at e64
   change x 65 = (.pointer (some ⟨b0, 5, none⟩) : Value) at e65
   change x 66 = (dv : Value) at e66
   change ((fun _ _ => True)) (x 67) W at e67
   simp only [lay, Act.put, List.setIfInBounds_toArray, List.set_cons_zero, List.set_cons_succ, e61, e62, e63, e64, e65, e66]
   clear e61 e62 e63 e64 e65 e66
   obtain ⟨hn9, hc9, -, h9⟩ := hR
   obtain ⟨hs9, hv9, hE9⟩ := h9 rfl
   have hb9 : Below b0 w W := HB4.out.trans (hs9.below (by omega) (fun k hk => ⟨by omega, fun e => by have := HM5.out k e; omega⟩))
   have c94 : W.cell? ⟨b0, 4, none⟩ = some (.int .i64 o) := cell_of_heap hc9 4
   have hb09 : b0 < W.heap.size := (Array.getElem?_eq_some_iff.1 hc9).1
   have HN9 := Lib.hid hn9
   have HE9 := Lib.hid hE9
   have HB9 := Lib.hid hb9
   clear hn9 hc9 h9 hs9 hE9 hb9 e67 HN4 HE4 HC4 HB4
   go_wp2_with fail
   by_cases ho : o < 1 ∨ 32 < o
   case pos =>
    have HO := Lib.hid ho
    refine (nodeOut_no_false np p dg 0 o la bv' kv' _ HN9.out ho).mono ?_; rintro e w5 ⟨rfl, hb5⟩
    clear ho
    have hb6 : Below b0 w w5 := HB9.out.trans (hb5.mono (by omega))
    clear hb5
    go_wp2
    go_ret2
    exact ⟨⟨_, 1, rfl, .inr (.inr (.inl ⟨HOK.out, HKB.out, HO.out, rfl⟩)), fun _ => rfl, fun h => by simp at h⟩, by rw [hb0]; exact hb6⟩
   obtain ⟨m, hm⟩ : ∃ m : Nat, o = (m : Int) := ⟨o.toNat, by omega⟩
   have hm1 : 1 ≤ m ∧ m ≤ 32 := by omega
   have HO := Lib.hid ho
   clear ho
   subst hm
   have hlen : (((keyZ 64 kz) ++ ds).length : Int) ≤ 281474976710656 := by
    have := keyZ_length (n := 64) (key := kz) (by have := HKL.out HKB.out; omega)
    have := HDL.out
    rw [List.length_append]; omega
   have hmz : ∀ z ∈ keyZ 64 kz ++ ds, 0 ≤ z ∧ z ≤ 255 := fun z hz => by
    rcases List.mem_append.1 hz with hz | hz
    ·exact keyZ_bounds HK.out.1 z hz
    ·exact HD.out.1 z hz
   refine (nodeOut_false (h0Z false bs) (keyZ 64 kz ++ ds) (h0Z_words false bs) hmz np p m dg 0 la bv' kv' hv9 _ HN9.out HE9.out hlen hm1.1 hm1.2).mono ?_; rintro e w5 ⟨⟨v5, rfl, hf5⟩, hb5⟩
   have HF5 := Lib.hid (show Fresh w.heap.size w5 v5 (callR false bs kz la (m : Nat) ds) from by have h := hf5.le (b' := w.heap.size) (by omega); unfold callR; exact h)
   have HB6 := Lib.hid (show Below b0 w w5 from HB9.out.trans (hb5.mono (by omega)))
   clear hf5 hb5 hlen hmz hm1
   go_wp2
   go_ret2
   exact ⟨⟨_, 0, rfl, .inr (.inr (.inr ⟨HOK.out, HKB.out, HO.out, rfl⟩)), fun h => absurd rfl h, fun _ => HF5.out⟩, by rw [hb0]; exact HB6.out⟩
end Go.Proofs.YtjogmckaakkomaaGreat
