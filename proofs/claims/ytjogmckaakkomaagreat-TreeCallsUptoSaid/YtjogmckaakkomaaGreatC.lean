/- TreeCalls: for every tree and every bytes the law returns true (walk). No condition. -/
import Derived.Test.YtjogmckaakkomaaGreatZ
import Derived.Test.YtjogmckaakkomaaGreatB48
import Derived.Deep.CondSized
import Derived.JoinedCond
set_option linter.all false
set_option maxRecDepth 100000
set_option maxHeartbeats 8000000
namespace Go.Proofs.YtjogmckaakkomaaGreat
open Go.ChangeShapes Go.WideShapes Go.ChangeAt Go.RowKit Go.Joins Go.Shelf Go.Maps
open Go.Lib (hid)
attribute [local go_sem] Oper.semAt_some
theorem flat_at {α : Type} {n : Nat} : ∀ {cs : List (List α)}, (∀ c ∈ cs, c.length = n) → ∀ {i j : Nat}, i < cs.length → j < n → cs.flatten[i * n + j]? = (cs.getD i [])[j]?
 | [], _, i, j, hi, _ => by simp at hi
 | c :: cs, h, i, j, hi, hj => by
  have hc := h c (List.mem_cons_self ..)
  cases i with
  | zero =>
   rw [List.flatten_cons, List.getElem?_append_left (by omega), Nat.zero_mul, Nat.zero_add]
   rfl
  | succ i =>
   have e : (i + 1) * n + j - c.length = i * n + j := by rw [hc, Nat.add_mul]; omega
   rw [List.flatten_cons, List.getElem?_append_right (by rw [hc, Nat.add_mul]; omega), e]
   exact flat_at (fun c hc => h c (List.mem_cons_of_mem _ hc)) (by simpa using hi) hj
theorem CallsO.form {w0 w : World} {B : Nat} {v : Value} {S : List CallS} (h : CallsO w0 B w v S) : ∃ a c, v = .slice a S.length c := by
 obtain ⟨cs, -, ho, -⟩ := h
 rcases ho.2 with ⟨rfl, e⟩ | ⟨g, cap, cur, rfl, -⟩
 ·exact ⟨none, 0, by rw [e]⟩
 ·exact ⟨_, _, rfl⟩
theorem CallsO.get {w0 w : World} {B i : Nat} {v : Value} {S : List CallS} {s : CallS} (h : CallsO w0 B w v S) (hi : i < S.length) (hs : S.getD i .zero = s) :
  ∃ g cap cur bv kv dv, v = .slice (some ⟨g, 0, none⟩) S.length cap ∧ B ≤ g ∧ w.heap[g]? = some (.cells cur 25 (0, 0)) ∧ (∀ j, j < 6 → cur[i * 6 + j]? = (#[.int .i64 s.k, bv, kv, .bool s.la, .int .i64 s.o, dv] : Array Value)[j]?) ∧ Hold w bv s.bs ∧ Hold w kv s.kz ∧ Hold w dv s.ds := by
 obtain ⟨cs, hl, ho, hx⟩ := h
 rcases ho.2 with ⟨-, e⟩ | ⟨g, cap, cur, rfl, h1, h2, h3, h4, h5, h6⟩
 ·omega
 obtain ⟨bv, kv, dv, e, k1, k2, k3⟩ := (hx i hi).cells
 rw [hs] at e k1 k2 k3
 refine ⟨g, cap, cur, bv, kv, dv, rfl, h1, h2, fun j hj => ?_, k1, k2, k3⟩
 have h7 := flat_at (n := 6) (cs := cs) (fun c hc => by
  obtain ⟨q, hq, rfl⟩ := List.mem_iff_getElem.1 hc
  obtain ⟨_, _, _, e, -⟩ := (hx q (by omega)).cells
  rw [List.getD_eq_getElem?_getD (l := cs), List.getElem?_eq_getElem hq] at e
  rw [show cs[q] = _ from e]
  rfl) (i := i) (j := j) (by omega) hj
 rw [e, ← h6, List.getElem?_take] at h7
 rw [if_pos (by omega)] at h7
 rw [← Array.getElem?_toList, h7, ← Array.getElem?_toList]
theorem treeCalls_walk (t : TreeV) (kz z1 z2 zs : List Int) (v : Value) (w : World) (hl : 0 ≤ t.l ∧ t.l ≤ 4294967295) (h1 : Hold w (.slice t.ka t.kl t.kc) kz) (h2 : Hold w (.slice t.sa t.sl t.sc) z1) (h3 : Hold w (.slice t.pa t.pl t.pc) z2) (hv : Hold w v zs) (hn : zs.length ≤ 4194304) (hk : t.kl ≤ 70368744177664) (hs : t.sl ≤ 70368744177664) (hp : t.pl ≤ 70368744177664) :
  Calls Tryz.prog 4 #[t.val, v] w (Trues w) := by
 obtain ⟨b0, hb0⟩ : ∃ b0, w.heap.size = b0 := ⟨_, rfl⟩
 obtain ⟨Z, hZ⟩ : ∃ Z, t.calZ kz z1 z2 zs = Z := ⟨_, rfl⟩
 obtain ⟨ev, hev⟩ : ∃ ev, t.validE = ev := ⟨_, rfl⟩
 have HOWN := hid (fun (W : World) (hb : Below b0 w W) => own10_ok t kz z1 z2 W (h1.below (hb0 ▸ hb)) (h2.below (hb0 ▸ hb)) (h3.below (hb0 ▸ hb)) hk hs hp)
 have HCPY := hid (fun (W : World) (hb : Below b0 w W) => copied_ok zs v W (hv.below (hb0 ▸ hb)) (by omega))
 have hrf := fun (W : World) (hb : Below b0 w W) => calls10_any t kz z1 z2 zs v W hl (h1.below (hb0 ▸ hb)) (h2.below (hb0 ▸ hb)) (h3.below (hb0 ▸ hb)) (hv.below (hb0 ▸ hb)) hn
 have hcl := fun (W : World) (x : Value) (a1 : Option Addr) (c1 : Nat) (a2 : Option Addr) (c2 : Nat) (a3 : Option Addr) (c3 : Nat) (k1 : Hold W (.slice a1 t.kl c1) kz) (k2 : Hold W (.slice a2 t.sl c2) z1) (k3 : Hold W (.slice a3 t.pl c3) z2) (hx : Hold W x zs) => calls_any (t.sw a1 c1 a2 c2 a3 c3) kz z1 z2 zs x W hl k1 k2 k3 hx hn
 unfold CalIs at hrf hcl
 simp only [TreeV.calZ_sw, show ∀ a1 c1 a2 c2 a3 c3, (t.sw a1 c1 a2 c2 a3 c3).validE = t.validE from fun _ _ _ _ _ _ => rfl] at hcl
 simp only [hZ, hev] at hrf hcl
 have HREF := hid hrf
 have HCL := hid hcl
 obtain ⟨va, vc, rfl, hvc1, hvc2⟩ := hv.slice
 have hee : (ev != ev) = false := by simp
 clear hl h1 h2 h3 hv hk hs hp hZ hev hrf hcl
 have hbA : Below b0 w (w.alloc (.cells #[.int .i64 t.k, .int .i64 t.d, .int .i64 t.f, .int .i64 t.p, .int .u32 t.l, .int .i64 t.i, .slice t.ka t.kl t.kc, .slice t.sa t.sl t.sc, .slice t.pa t.pl t.pc] 34)) := by rw [← hb0]; exact (Below.refl _ _).alloc (Nat.le_refl _) _
 have hrA := World.alloc_heap_new w (.cells #[.int .i64 t.k, .int .i64 t.d, .int .i64 t.f, .int .i64 t.p, .int .u32 t.l, .int .i64 t.i, .slice t.ka t.kl t.kc, .slice t.sa t.sl t.sc, .slice t.pa t.pl t.pc] 34)
 rw [hb0] at hrA
 unfold TreeV.val at *
 go_enter Tryz.func4, Tryz.ntmps4
 go_upto_region 1 with (fail)
 generalize w.alloc (.cells #[.int .i64 t.k, .int .i64 t.d, .int .i64 t.f, .int .i64 t.p, .int .u32 t.l, .int .i64 t.i, .slice t.ka t.kl t.kc, .slice t.sa t.sl t.sc, .slice t.pa t.pl t.pc] 34) = wA at *
 have hsA : b0 < wA.heap.size := (Array.getElem?_eq_some_iff.1 hrA).1
 go_wp2_with ((with_reducible show wpList _ _ _ (Oper.mk _ (Op.load 34 _) _ _ _ _ :: _) _ _); refine wpList_load_row rfl 34 _ rfl b0 rfl _ _ _ _ hrA Tryz.underlying34 rfl (by kernel_rfl) ?_)
 refine (HOWN.out wA hbA).mono ?_; rintro e w1 ⟨u, rfl, hu, hb1⟩
 obtain ⟨a1, c1, a2, c2, a3, c3, rfl, k1, k2, k3⟩ := hu
 have HK1 := hid k1
 have HK2 := hid k2
 have HK3 := hid k3
 have HB1 := hid (hbA.trans (hb1.mono (show b0 ≤ wA.heap.size by omega)))
 have hr1 := rowStay hrA hb1
 have hs1 : b0 < w1.heap.size := (Array.getElem?_eq_some_iff.1 hr1).1
 clear k1 k2 k3 hb1 hrA hbA
 unfold TreeV.val
 go_wp2_with fail
 refine (HCPY.out w1 HB1.out).mono ?_; rintro e w2 ⟨x, rfl, hx, hb2⟩
 have hr2 := rowStay hr1 hb2
 have hs2 : b0 < w2.heap.size := (Array.getElem?_eq_some_iff.1 hr2).1
 have kb2 := KB.of_below hb2 (Nat.zero_le _)
 have HB2 := hid (HB1.out.trans (hb2.mono (by omega)))
 have HQ := hid (HCL.out w2 x a1 c1 a2 c2 a3 c3 (HK1.out.kb kb2).hold (HK2.out.kb kb2).hold (HK3.out.kb kb2).hold hx.hold)
 obtain ⟨xa, xc, rfl, -, -⟩ := hx.hold.slice
 clear hx hb2 kb2 hr1
 go_wp2_with fail
 refine HQ.out.mono ?_; rintro e w3 ⟨l, rfl, hl, hb3⟩
 have hr3 := rowStay hr2 hb3
 have HB3 := hid (HB2.out.trans (hb3.mono (by omega)))
 have HLC := hid hl
 have hs3 : b0 < w3.heap.size := (Array.getElem?_eq_some_iff.1 hr3).1
 have hs23 := hb3.size
 clear hl hb3 hr2
 go_wp2_with ((with_reducible show wpList _ _ _ (Oper.mk _ (Op.load 34 _) _ _ _ _ :: _) _ _); refine wpList_load_row rfl 34 _ rfl b0 rfl _ _ _ _ hr3 Tryz.underlying34 rfl (by kernel_rfl) ?_)
 refine (HREF.out w3 HB3.out).mono ?_; rintro e w4 ⟨m, rfl, hm, hb4⟩
 have HB4 := hid (HB3.out.trans (hb4.mono (by omega)))
 have HM4 := hid hm
 have HL4 := hid (HLC.out.below (by omega) hb4)
 have hs4 := hb4.size
 obtain ⟨la, lc, rfl⟩ := hm.form
 obtain ⟨ma, mc, rfl⟩ := HLC.out.form
 clear hm hb4 hr3
 have hnn : ((Z.length : Int) != (Z.length : Int)) = false := by simp
 have hZi : (Z.length : Int) ≤ 9223372036854775807 := by
  obtain ⟨cs, -, ho, -⟩ := HM4.out
  rcases ho.2 with ⟨-, e⟩ | ⟨g, cap, cur, -, -, -, h4, h5, -⟩
  ·omega
  ·unfold maxLen at h5; omega
 go_wp2_with fail
 go_loopw [9] (fun i wr => ∃ j : Nat, i = .int .i64 (j : Nat) ∧ j ≤ Z.length ∧ Below w4.heap.size w4 wr) (fun i _ => Z.length - (intOf i).toNat)
 case atStart => exact ⟨0, rfl, Nat.zero_le _, Below.refl _ _⟩
 case round =>
  obtain ⟨j, rfl, hj, hb⟩ := hrel
  by_cases hlt : j < Z.length
  case pos =>
   have hlt2 : (j : Int) < Z.length := by omega
   obtain ⟨s, hs⟩ : ∃ s, Z.getD j .zero = s := ⟨_, rfl⟩
   obtain ⟨g1, k1, cur1, bv1, kv1, dv1, e1, -, hg1, hc1, p1, p2, p3⟩ := (HL4.out.below (by omega) hb).get hlt hs
   obtain ⟨g2, k2, cur2, bv2, kv2, dv2, e2, -, hg2, hc2, p4, p5, p6⟩ := (HM4.out.below (by omega) hb).get hlt hs
   simp only [Value.slice.injEq, true_and] at e1 e2
   obtain ⟨rfl, rfl⟩ := e1
   obtain ⟨rfl, rfl⟩ := e2
   have HG1 := hid hg1
   have HG2 := hid hg2
   have HC1 := hid hc1
   have HC2 := hid hc2
   have HP := hid (fun (W : World) (hb : Below wr.heap.size wr W) => alike10_ok s bv1 kv1 dv1 bv2 kv2 dv2 W (p1.below hb) (p2.below hb) (p3.below hb) (p4.below hb) (p5.below hb) (p6.below hb))
   have HB := hid hb
   have hs4r := hb.size
   clear hs hg1 hg2 hc1 hc2 p1 p2 p3 p4 p5 p6 hb
   go_wp2_with fail
   refine wp_region_c (n := 10) (w0 := wr) (B := wr.heap.size) [.v 40 (.slice (some ⟨g1, 0, none⟩) Z.length mc), .v 41 (.int .i64 (j : Nat)), .v 42 (.pointer (some ⟨g1, j * 6, none⟩)), .v 43 (.agg #[.int .i64 s.k, bv1, kv1, .bool s.la, .int .i64 s.o, dv1]), .v 44 (.slice (some ⟨g2, 0, none⟩) Z.length lc), .v 45 (.int .i64 (j : Nat)), .v 46 (.pointer (some ⟨g2, j * 6, none⟩)), .v 47 (.agg #[.int .i64 s.k, bv2, kv2, .bool s.la, .int .i64 s.o, dv2]), .v 48 (.bool true), .v 49 (.bool false)] trivial (Below.refl _ _).drew (Nat.le_refl _) ?_ ?_
   ·repeat' (with_reducible first | exact eachO_nil | refine eachO_cons ?_ ?_)
    all_goals try
     intro AA x W hA hW hBW hdep D K hK
     have a5 := hA.2 5 (by decide)
     conv at a5 => rhs; whnf
     have a7 := hA.2 7 (by decide)
     conv at a7 => rhs; whnf
     have a9 := hA.2 9 (by decide)
     conv at a9 => rhs; whnf
     simp only [DepF, nthF] at D
     clear hdep hA
     go_simp
     exact hK _ _ BR rfl
    ·intro AA x W hA hW hBW hdep _ K hK
     have g42 := gv hA hdep 2 42
     clear hdep hA
     exact wp_load_part 25 _ rfl g1 (j * 6) g42 25 cur1 #[.int .i64 s.k, bv1, kv1, .bool s.la, .int .i64 s.o, dv1] (0, 0) _ ((hW.block g1 (Array.getElem?_eq_some_iff.1 HG1.out).1).trans HG1.out) Tryz.underlying25 rfl (by kernel_rfl) HC1.out (hK _ _ BR rfl)
    ·intro AA x W hA hW hBW hdep _ K hK
     have g46 := gv hA hdep 6 46
     clear hdep hA
     exact wp_load_part 25 _ rfl g2 (j * 6) g46 25 cur2 #[.int .i64 s.k, bv2, kv2, .bool s.la, .int .i64 s.o, dv2] (0, 0) _ ((hW.block g2 (Array.getElem?_eq_some_iff.1 HG2.out).1).trans HG2.out) Tryz.underlying25 rfl (by kernel_rfl) HC2.out (hK _ _ BR rfl)
    ·intro AA x W hA hW hBW hdep _ K hK
     have g43 := gv hA hdep 3 43
     have g47 := gv hA hdep 7 47
     clear hdep hA
     go_simp
     refine (HP.out W hW).mono ?_; rintro e w5 ⟨rfl, hb5⟩
     exact hK _ _ hb5 rfl
   intro x W hW hBW _
   refine thenTail_nil ?_
   simp only [layS, Act.put, List.setIfInBounds_toArray, List.set_cons_zero, List.set_cons_succ]
   go_wp2
   exact ⟨⟨j + 1, by go_num, by omega, HB.out.trans (hW.mono hs4r)⟩, by simp [intOf]; omega⟩
  obtain rfl : j = Z.length := by omega
  have HB := hid hb
  clear hb
  go_wp2
  go_ret
  exact ⟨rfl, by rw [hb0]; exact HB4.out.trans (HB.out.mono (by omega))⟩
end Go.Proofs.YtjogmckaakkomaaGreat
namespace Go.Proofs.YtjogmckaakkomaaGreat
open Go.ChangeShapes Go.WideShapes Go.ChangeAt Go.RowKit Go.Joins Go.Shelf Go.Maps
open Go.Lib (hid)
theorem treeCalls_call {H : Type} (enc : TypeId × Value → H) (W : World) (base : Nat) (args : Array Value) (ds : List (DataW H)) (p : List MemPlace)
  (hval : ∀ (j : Nat) t v, Tryz.f4.params[j]? = some t → args[j]? = some v → Value.okWide Tryz.prog W .any base t v)
  (hA : DataW.TrodAll enc Tryz.prog W 0 (fun _ => true) true Tryz.f4.params.toList args.toList ds p) (hlt : ∀ x ∈ p, x.block < W.heap.size)
  (hk : Rows.uptoSmall H ds = true) :
  Calls Tryz.prog 4 args W (Trues W) := by
 rw [Tryz.params4] at hA hval
 obtain ⟨v0, v1, d0, d1, p0, p1, rfl, rfl, rfl, h0, h1⟩ := trodAll_two hA
 have hb : Rows.uptoBulk d0 + (Rows.uptoBulk d1 + 0) ≤ 1048576 := of_decide_eq_true hk
 obtain ⟨t, kz, z1, z2, rfl, hl, ht, b1, b2, b3⟩ := openH_tree (hval 0 34 v0 rfl rfl) h0 (fun x hx => hlt x (by simp [hx]))
 obtain ⟨zs, hz, hm⟩ := openH_bytes (hval 1 23 v1 rfl rfl) h1 (fun x hx => hlt x (by simp [hx]))
 have e1 := hold_len ht.k
 have e2 := hold_len ht.s
 have e3 := hold_len ht.p
 exact treeCalls_walk t kz z1 z2 zs v1 W hl ht.k ht.s ht.p hz (by omega) (by omega) (by omega) (by omega)
theorem treeCalls_lifted (os : Os) (started : os.Started) (H : Type) (enc : TypeId × Value → H) (F0 : Stop.Interp) :
  ReturnsInHanded {} Tryz.checked os 4 .any ((Rows.OpenSpec.upto Rows.treeCallsSpec).pre6 enc Tryz.prog Tryz.f4 Rows.treeCallsUptoRow.domain false) (((Rows.OpenSpec.upto Rows.treeCallsSpec).at F0).post enc Tryz.prog Tryz.f4 false true false false) := by
 refine returnsInHanded_of_cond_sized (C := Tryz.checked) (s := Rows.OpenSpec.upto Rows.treeCallsSpec) (k := Rows.uptoSmall) rfl own started (by kernel_rfl) Tryz.func4
  (OpenSpec.witness (enc := enc) (C := Tryz.checked) (s := Rows.OpenSpec.upto Rows.treeCallsSpec) (k := Rows.uptoSmall) rfl false ⟨#[], #[.agg #[.int .i64 0, .int .i64 0, .int .i64 0, .int .i64 0, .int .u32 0, .int .i64 0, .slice none 0 0, .slice none 0 0, .slice none 0 0], .slice none 0 0], []⟩ 40 (by kernel_rfl) (by kernel_rfl) (by kernel_rfl)
   (x := ([.agg [.lit (.int .i64 0), .lit (.int .i64 0), .lit (.int .i64 0), .lit (.int .i64 0), .lit (.int .u32 0), .lit (.int .i64 0), .nil, .nil, .nil], .nil], [], [])) (by kernel_rfl) (by kernel_rfl) (by kernel_rfl)) ?_
 intro W base args ds gs before hval0 hW hcnd hk hz _
 have hW' := hW
 obtain ⟨p, q, hA0, hV, rfl, hfz, hnd⟩ := hW
 have hA : DataW.TrodAll enc Tryz.prog W 0 (fun _ => true) true Tryz.f4.params.toList args.toList ds p := hA0
 obtain ⟨rfl, rfl⟩ := trodVars_none hV
 have hk' : Rows.uptoSmall H ds = true := by rw [← List.append_nil ds]; exact hk
 refine (treeCalls_call enc W base args ds p hval0 hA (fun x hx => hW'.lt x (by simpa using hx)) hk').mono fun e W' h => ⟨_, h.1, ?_⟩
 refine post_of_trues (s := (Rows.OpenSpec.upto Rows.treeCallsSpec).at F0) laidOut _ rfl Tryz.underlying4 (by decide +kernel) rfl hW' ?_ h.2
 have hA' := hA
 rw [Tryz.params4] at hA'
 obtain ⟨v0, v1, d0, d1, p0, p1, rfl, rfl, _⟩ := trodAll_two hA'
 rfl
theorem treeCalls_holds : Rows.TreeCallsUptoSaid :=
 OpenClaim.holds_of_cond 4 Tryz.f4 rfl rfl rfl rfl rfl rfl rfl ⟨rfl, rfl, rfl, rfl, rfl⟩ rfl rfl rfl rfl rfl (by kernel_rfl) Tryz.func4 (by kernel_rfl)
  (of_decide_eq_true (by kernel_rfl)) (by unfold Func.isWrapper; first | (rw [if_pos (by decide +kernel)]; kernel_rfl) | (rw [if_neg (by decide +kernel)]; exact ⟨rfl, rfl⟩))
  (fun os started H enc _ F0 => by rw [OpenClaim.pre_of_none' rfl]; exact treeCalls_lifted os started H enc F0)
#print axioms treeCalls_holds
end Go.Proofs.YtjogmckaakkomaaGreat
