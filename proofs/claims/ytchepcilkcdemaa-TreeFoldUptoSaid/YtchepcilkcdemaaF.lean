/- TreeFold: for every tree and every bytes the law returns true (walk). No condition. -/
import Derived.Test.YtchepcilkcdemaaFB
import Derived.Test.YtchepcilkcdemaaB44
import Derived.Test.YtchepcilkcdemaaB45
import Derived.Deep.CondSized
import Derived.JoinedCond
set_option linter.all false
set_option maxRecDepth 100000
set_option maxHeartbeats 8000000
namespace Go.Proofs.Ytchepcilkcdemaa
open Go.ChangeShapes Go.WideShapes Go.ChangeAt Go.RowKit Go.Joins Go.Shelf Go.Maps
open Go.Lib (hid)
attribute [local go_sem] Oper.semAt_some
theorem fold_any (t : TreeV) (kz z1 z2 zs : List Int) (v : Value) (w : World) (h : TreeOk t kz z1 z2 w) (hv : ListH w v (t.leafZ kz z1 z2 zs)) (hn : zs.length ≤ 4194304) :
  Calls Try.prog 12 #[t.val, .int .u64 zs.length, v] w fun e w' => ∃ u, e = .returned (.tuple #[u, .int .i64 0]) ∧ OwnB w.heap.size w' u (t.digZ kz z1 z2 zs) ∧ Below w.heap.size w w' := by
 have hL := TreeV.leafZ_facts h.v h.l kz z1 z2 zs
 have hT := top_rows (err_small h.v hn) kz z1 z2 (leafZ_rows h.v h.l kz z1 z2 zs) hL.2.2
 refine (foldT_ok t kz z1 z2 (t.leafZ kz z1 z2 zs) zs.length v w h hv (err_small h.v hn) (by omega) (leafZ_rows h.v h.l kz z1 z2 zs) (fun k hk => TreeV.leaf_len h.v kz z1 z2 zs hk) hL.2.2 (by have := hL.2.1; omega)).mono ?_
 rintro e w' ⟨u, rfl, ⟨R, hR, ho⟩, hb⟩
 rw [TreeV.topAt_one hR hT] at ho
 exact ⟨u, rfl, by unfold TreeV.digZ; rw [if_pos h.v]; exact ho, hb⟩
theorem treeFold_walk (t : TreeV) (kz z1 z2 zs : List Int) (v : Value) (w : World) (hl : 0 ≤ t.l ∧ t.l ≤ 4294967295) (h1 : Hold w (.slice t.ka t.kl t.kc) kz) (h2 : Hold w (.slice t.sa t.sl t.sc) z1) (h3 : Hold w (.slice t.pa t.pl t.pc) z2) (hv : Hold w v zs) (hn : zs.length ≤ 4194304) (hk : t.kl ≤ 70368744177664) (hs : t.sl ≤ 70368744177664) (hp : t.pl ≤ 70368744177664) :
  Calls Try.prog 3 #[t.val, v] w (Trues w) := by
 obtain ⟨b0, hb0⟩ : ∃ b0, w.heap.size = b0 := ⟨_, rfl⟩
 have HOWN := hid (fun (W : World) (hb : Below b0 w W) => own10_ok t kz z1 z2 W (h1.below (hb0 ▸ hb)) (h2.below (hb0 ▸ hb)) (h3.below (hb0 ▸ hb)) hk hs hp)
 have hha := fun (W : World) (a1 : Option Addr) (c1 : Nat) (a2 : Option Addr) (c2 : Nat) (a3 : Option Addr) (c3 : Nat) (hh : Hold W (.slice a1 t.kl c1) kz ∧ Hold W (.slice a2 t.sl c2) z1 ∧ Hold W (.slice a3 t.pl c3) z2) (hb : Below b0 w W) => hash_any (t.sw a1 c1 a2 c2 a3 c3) kz z1 z2 zs v W hl hh.1 hh.2.1 hh.2.2 (hv.below (hb0 ▸ hb)) hn
 have hlf := fun (W : World) (a1 : Option Addr) (c1 : Nat) (a2 : Option Addr) (c2 : Nat) (a3 : Option Addr) (c3 : Nat) (hh : Hold W (.slice a1 t.kl c1) kz ∧ Hold W (.slice a2 t.sl c2) z1 ∧ Hold W (.slice a3 t.pl c3) z2) (hb : Below b0 w W) => leaves_any (t.sw a1 c1 a2 c2 a3 c3) kz z1 z2 zs v W hl hh.1 hh.2.1 hh.2.2 (hv.below (hb0 ▸ hb)) hn
 have hfo := fun (W : World) (x : Value) (a1 : Option Addr) (c1 : Nat) (a2 : Option Addr) (c2 : Nat) (a3 : Option Addr) (c3 : Nat) (hh : Hold W (.slice a1 t.kl c1) kz ∧ Hold W (.slice a2 t.sl c2) z1 ∧ Hold W (.slice a3 t.pl c3) z2) (he : t.validE = 0) (hx : ListH W x (t.leafZ kz z1 z2 zs)) => fold_any (t.sw a1 c1 a2 c2 a3 c3) kz z1 z2 zs x W ⟨he, hl, hh.1, hh.2.1, hh.2.2⟩ hx hn
 unfold DigIs at hha
 simp only [TreeV.digZ_sw, show ∀ a1 c1 a2 c2 a3 c3, (t.sw a1 c1 a2 c2 a3 c3).levZ kz z1 z2 zs = t.levZ kz z1 z2 zs from fun _ _ _ _ _ _ => rfl, show ∀ a1 c1 a2 c2 a3 c3, (t.sw a1 c1 a2 c2 a3 c3).validE = t.validE from fun _ _ _ _ _ _ => rfl] at hha hlf hfo
 have hlz : t.validE = 0 → t.levZ kz z1 z2 zs = t.leafZ kz z1 z2 zs := fun h => by unfold TreeV.levZ; rw [if_pos h]
 generalize t.digZ kz z1 z2 zs = Z at *
 generalize t.levZ kz z1 z2 zs = LZ at *
 generalize t.leafZ kz z1 z2 zs = FZ at *
 generalize t.validE = ev at *
 have HHA := hid hha
 have HLF := hid hlf
 have HFO := hid hfo
 have HLZ := hid hlz
 obtain ⟨va, vc, rfl, hvc1, hvc2⟩ := hv.slice
 have hju : IntKind.u64.wrap (zs.length : Int) = (zs.length : Int) := u64_wrap_id _ (by omega) (by omega)
 have hbA : Below b0 w (w.alloc (.cells #[.int .i64 t.k, .int .i64 t.d, .int .i64 t.f, .int .i64 t.p, .int .u32 t.l, .int .i64 t.i, .slice t.ka t.kl t.kc, .slice t.sa t.sl t.sc, .slice t.pa t.pl t.pc] 26)) := by rw [← hb0]; exact (Below.refl _ _).alloc (Nat.le_refl _) _
 have hrA := World.alloc_heap_new w (.cells #[.int .i64 t.k, .int .i64 t.d, .int .i64 t.f, .int .i64 t.p, .int .u32 t.l, .int .i64 t.i, .slice t.ka t.kl t.kc, .slice t.sa t.sl t.sc, .slice t.pa t.pl t.pc] 26)
 rw [hb0] at hrA
 clear hl h1 h2 h3 hv hk hs hp hha hlf hfo hlz
 unfold TreeV.val at *
 go_enter Try.func3, Try.ntmps3
 go_upto_region 1 with (fail)
 generalize w.alloc (.cells #[.int .i64 t.k, .int .i64 t.d, .int .i64 t.f, .int .i64 t.p, .int .u32 t.l, .int .i64 t.i, .slice t.ka t.kl t.kc, .slice t.sa t.sl t.sc, .slice t.pa t.pl t.pc] 26) = wA at *
 have hsA : b0 < wA.heap.size := (Array.getElem?_eq_some_iff.1 hrA).1
 go_wp2_with fail
 refine (alive_ok wA).mono ?_; rintro e wq ⟨rfl, hbq⟩
 have hrq := rowStay hrA hbq
 have HBwq := hid (hbA.trans (hbq.mono (Nat.le_of_lt hsA)))
 have hswq : b0 < wq.heap.size := (Array.getElem?_eq_some_iff.1 hrq).1
 clear hrA hbA hbq
 go_wp2_with ((with_reducible show wpList _ _ _ (Oper.mk _ (Op.load 26 _) _ _ _ _ :: _) _ _); refine wpList_load_row rfl 26 _ rfl b0 rfl _ _ _ _ hrq Try.underlying26 rfl (by kernel_rfl) ?_)
 refine (HOWN.out wq HBwq.out).mono ?_; rintro e woA ⟨uA, rfl, hu, hb1⟩
 obtain ⟨a1, c1, a2, c2, a3, c3, rfl, k1, k2, k3⟩ := hu
 have HKA := hid (show Hold woA (.slice a1 t.kl c1) kz ∧ Hold woA (.slice a2 t.sl c2) z1 ∧ Hold woA (.slice a3 t.pl c3) z2 from ⟨k1.hold, k2.hold, k3.hold⟩)
 have HBwoA := hid (HBwq.out.trans (hb1.mono (Nat.le_of_lt hswq)))
 have hrwoA := rowStay hrq hb1
 have hswoA : b0 < woA.heap.size := by have := hb1.size; omega
 have HDwoA := hid hb1
 clear k1 k2 k3 hb1 hrq
 unfold TreeV.val
 go_wp2_with fail
 refine (HLF.out woA _ _ _ _ _ _ HKA.out HBwoA.out).mono ?_; rintro e w3 ⟨l, rfl, hlo, hb3⟩
 have hr3 := rowStay hrwoA hb3
 have HBw3 := hid (HBwoA.out.trans (hb3.mono (Nat.le_of_lt hswoA)))
 have hsw3 : b0 < w3.heap.size := (Array.getElem?_eq_some_iff.1 hr3).1
 have HLO := hid hlo
 obtain ⟨la, lc, rfl, hLZi⟩ := hlo.form
 clear hlo hb3 hrwoA HKA HDwoA
 go_wp2_with ((with_reducible show wpList _ _ _ (Oper.mk _ (Op.load 26 _) _ _ _ _ :: _) _ _); refine wpList_load_row rfl 26 _ rfl b0 rfl _ _ _ _ hr3 Try.underlying26 rfl (by kernel_rfl) ?_)
 refine (HOWN.out w3 HBw3.out).mono ?_; rintro e woB ⟨uB, rfl, hu, hb1⟩
 obtain ⟨a1, c1, a2, c2, a3, c3, rfl, k1, k2, k3⟩ := hu
 have HKB := hid (show Hold woB (.slice a1 t.kl c1) kz ∧ Hold woB (.slice a2 t.sl c2) z1 ∧ Hold woB (.slice a3 t.pl c3) z2 from ⟨k1.hold, k2.hold, k3.hold⟩)
 have HBwoB := hid (HBw3.out.trans (hb1.mono (Nat.le_of_lt hsw3)))
 have hrwoB := rowStay hr3 hb1
 have hswoB : b0 < woB.heap.size := by have := hb1.size; omega
 have HDwoB := hid hb1
 clear k1 k2 k3 hb1 hr3
 unfold TreeV.val
 go_wp2_with fail
 refine (HHA.out woB _ _ _ _ _ _ HKB.out HBwoB.out).mono ?_; rintro e w4 ⟨d, rfl, hd, hb4⟩
 have hr4 := rowStay hrwoB hb4
 have HBw4 := hid (HBwoB.out.trans (hb4.mono (Nat.le_of_lt hswoB)))
 have hsw4 : b0 < w4.heap.size := (Array.getElem?_eq_some_iff.1 hr4).1
 have HLO4 := hid ((HLO.out.below HDwoB.out).below hb4)
 have HD := hid hd
 obtain ⟨da, dc, rfl, -, -⟩ := hd.hold.slice
 clear hd hb4 hrwoB HKB HDwoB HLO
 by_cases he : ev = 0
 case neg =>
  have q1 : (ev != 0) = true := by simp [he]
  have q2 : (ev == ev) = true := by simp
  clear he
  go_wp2
  go_ret
  exact ⟨rfl, by rw [hb0]; exact HBw4.out⟩
 have q1 : (ev != 0) = false := by simp [he]
 have HE := hid he
 rw [HLZ.out he] at HLO4 ⊢
 clear he
 go_wp2_with ((with_reducible show wpList _ _ _ (Oper.mk _ (Op.load 26 _) _ _ _ _ :: _) _ _); refine wpList_load_row rfl 26 _ rfl b0 rfl _ _ _ _ hr4 Try.underlying26 rfl (by kernel_rfl) ?_)
 refine (HOWN.out w4 HBw4.out).mono ?_; rintro e woC ⟨uC, rfl, hu, hb1⟩
 obtain ⟨a1, c1, a2, c2, a3, c3, rfl, k1, k2, k3⟩ := hu
 have HKC := hid (show Hold woC (.slice a1 t.kl c1) kz ∧ Hold woC (.slice a2 t.sl c2) z1 ∧ Hold woC (.slice a3 t.pl c3) z2 from ⟨k1.hold, k2.hold, k3.hold⟩)
 have HBwoC := hid (HBw4.out.trans (hb1.mono (Nat.le_of_lt hsw4)))
 have hrwoC := rowStay hr4 hb1
 have hswoC : b0 < woC.heap.size := by have := hb1.size; omega
 have HDwoC := hid hb1
 clear k1 k2 k3 hb1 hr4
 unfold TreeV.val
 go_wp2_with fail
 refine (HFO.out woC _ _ _ _ _ _ _ HKC.out HE.out (HLO4.out.below HDwoC.out).hold).mono ?_; rintro e w5 ⟨b, rfl, hb, hb5⟩
 have HD5 := hid ((HD.out.kb (KB.of_below HDwoC.out (Nat.zero_le _))).kb (KB.of_below hb5 (Nat.zero_le _)))
 have HB := hid hb
 have HBw5 := hid (HBwoC.out.trans (hb5.mono (Nat.le_of_lt hswoC)))
 obtain ⟨ba, bc, rfl, -, -⟩ := hb.hold.slice
 have hsw5 : b0 < w5.heap.size := by have := hb5.size; omega
 clear hb hb5 hrwoC HKC HDwoC
 go_wp2_with fail
 refine (same10_ok Z _ _ w5 HD5.out.hold HB.out.hold).mono ?_; rintro e w6 ⟨rfl, m, rfl⟩
 go_wp2
 go_ret
 exact ⟨rfl, by rw [hb0]; exact HBw5.out.trans ((below_drewN w5 m).mono (Nat.le_of_lt hsw5))⟩
end Go.Proofs.Ytchepcilkcdemaa
namespace Go.Proofs.Ytchepcilkcdemaa
open Go.ChangeShapes Go.WideShapes Go.ChangeAt Go.RowKit Go.Joins Go.Shelf Go.Maps
open Go.Lib (hid)
theorem treeFold_call {H : Type} (enc : TypeId × Value → H) (W : World) (base : Nat) (args : Array Value) (ds : List (DataW H)) (p : List MemPlace)
  (hval : ∀ (j : Nat) t v, Try.f3.params[j]? = some t → args[j]? = some v → Value.okWide Try.prog W .any base t v)
  (hA : DataW.TrodAll enc Try.prog W 0 (fun _ => true) true Try.f3.params.toList args.toList ds p) (hlt : ∀ x ∈ p, x.block < W.heap.size)
  (hk : Rows.uptoSmall H ds = true) :
  Calls Try.prog 3 args W (Trues W) := by
 rw [Try.params3] at hA hval
 obtain ⟨v0, v1, d0, d1, p0, p1, rfl, rfl, rfl, h0, h1⟩ := trodAll_two hA
 have hb : Rows.uptoBulk d0 + (Rows.uptoBulk d1 + 0) ≤ 1048576 := of_decide_eq_true hk
 obtain ⟨t, kz, z1, z2, rfl, hl, ht, b1, b2, b3⟩ := openH_tree (hval 0 26 v0 rfl rfl) h0 (fun x hx => hlt x (by simp [hx]))
 obtain ⟨zs, hz, hm⟩ := openH_bytes (hval 1 24 v1 rfl rfl) h1 (fun x hx => hlt x (by simp [hx]))
 have e1 := hold_len ht.k
 have e2 := hold_len ht.s
 have e3 := hold_len ht.p
 exact treeFold_walk t kz z1 z2 zs v1 W hl ht.k ht.s ht.p hz (by omega) (by omega) (by omega) (by omega)
theorem treeFold_lifted (os : Os) (started : os.Started) (H : Type) (enc : TypeId × Value → H) (F0 : Stop.Interp) :
  ReturnsInHanded {} Try.checked os 3 .any ((Rows.OpenSpec.upto Rows.treeFoldSpec).pre6 enc Try.prog Try.f3 Rows.treeFoldUptoRow.domain false) (((Rows.OpenSpec.upto Rows.treeFoldSpec).at F0).post enc Try.prog Try.f3 false true false false) := by
 refine returnsInHanded_of_cond_sized (C := Try.checked) (s := Rows.OpenSpec.upto Rows.treeFoldSpec) (k := Rows.uptoSmall) rfl own started (by kernel_rfl) Try.func3
  (OpenSpec.witness (enc := enc) (C := Try.checked) (s := Rows.OpenSpec.upto Rows.treeFoldSpec) (k := Rows.uptoSmall) rfl false ⟨#[], #[.agg #[.int .i64 0, .int .i64 0, .int .i64 0, .int .i64 0, .int .u32 0, .int .i64 0, .slice none 0 0, .slice none 0 0, .slice none 0 0], .slice none 0 0], []⟩ 40 (by kernel_rfl) (by kernel_rfl) (by kernel_rfl)
   (x := ([.agg [.lit (.int .i64 0), .lit (.int .i64 0), .lit (.int .i64 0), .lit (.int .i64 0), .lit (.int .u32 0), .lit (.int .i64 0), .nil, .nil, .nil], .nil], [], [])) (by kernel_rfl) (by kernel_rfl) (by kernel_rfl)) ?_
 intro W base args ds gs before hval0 hW hcnd hk hz _
 have hW' := hW
 obtain ⟨p, q, hA0, hV, rfl, hfz, hnd⟩ := hW
 have hA : DataW.TrodAll enc Try.prog W 0 (fun _ => true) true Try.f3.params.toList args.toList ds p := hA0
 obtain ⟨rfl, rfl⟩ := trodVars_none hV
 have hk' : Rows.uptoSmall H ds = true := by rw [← List.append_nil ds]; exact hk
 refine (treeFold_call enc W base args ds p hval0 hA (fun x hx => hW'.lt x (by simpa using hx)) hk').mono fun e W' h => ⟨_, h.1, ?_⟩
 refine post_of_trues (s := (Rows.OpenSpec.upto Rows.treeFoldSpec).at F0) laidOut _ rfl Try.underlying4 (by decide +kernel) rfl hW' ?_ h.2
 have hA' := hA
 rw [Try.params3] at hA'
 obtain ⟨v0, v1, d0, d1, p0, p1, rfl, rfl, _⟩ := trodAll_two hA'
 rfl
theorem treeFold_holds : Rows.TreeFoldUptoSaid :=
 OpenClaim.holds_of_cond 3 Try.f3 rfl rfl rfl rfl rfl rfl rfl ⟨rfl, rfl, rfl, rfl, rfl⟩ rfl rfl rfl rfl rfl (by kernel_rfl) Try.func3 (by kernel_rfl)
  (of_decide_eq_true (by kernel_rfl)) (by unfold Func.isWrapper; first | (rw [if_pos (by decide +kernel)]; kernel_rfl) | (rw [if_neg (by decide +kernel)]; exact ⟨rfl, rfl⟩))
  (fun os started H enc _ F0 => by rw [OpenClaim.pre_of_none' rfl]; exact treeFold_lifted os started H enc F0)
#print axioms treeFold_holds
end Go.Proofs.Ytchepcilkcdemaa
