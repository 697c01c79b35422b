/- TreeSmall: for every tree and every bytes the law returns true (walk). No condition. -/
import Derived.Test.YtchepcilkcdemaaS46
import Derived.Test.YtchepcilkcdemaaS43
import Derived.Test.YtchepcilkcdemaaS45
import Derived.Deep.CondSized
import Derived.JoinedCond
set_option linter.all false
set_option maxRecDepth 100000
set_option maxHeartbeats 8000000
namespace Go.Proofs.Ytchepcilkcdemaa
open Go.ChangeShapes Go.WideShapes Go.ChangeAt Go.RowKit Go.Joins Go.Shelf Go.Maps
open Go.Lib (hid)
attribute [local go_sem] Oper.semAt_some
theorem TreeV.rowsM_pn {t : TreeV} (hv : t.validE = 0) {s m : Nat} (h : t.rowsM s m) : (m : Int) ≤ t.p := by
 have hp := TreeV.pn_is hv
 rcases m with _ | _ | r
 ·omega
 ·omega
 ·have h2 := h.1 (r + 1) (by omega)
  rw [TreeV.cntS_next] at h2
  by_cases h3 : t.fn = 0 ∨ t.pn ≤ r + 2
  ·rw [if_pos h3] at h2; omega
  ·omega
theorem TreeV.opn_small {t : TreeV} (hv : t.validE = 0) {s r : Nat} (hf : 0 < t.f) (hr : (r : Int) + 2 < t.p) : ((t.opn s r : Nat) : Int) ≤ t.f - 1 := by
 have hp := TreeV.pn_is hv
 have hfn : (t.fn : Int) = t.f := by unfold TreeV.fn; omega
 unfold TreeV.opn
 rw [TreeV.cntS_next, if_neg (by omega)]
 have h1 := Nat.mod_lt (t.cntS s r) (show 0 < t.fn by omega)
 have h2 := Nat.div_add_mod (t.cntS s r) t.fn
 rw [Nat.mul_comm] at h2
 omega
theorem TreeV.openN_length (t : TreeV) (s m : Nat) : (t.openN s m).length = mostOf (t.opn s) m := by unfold TreeV.openN; rw [List.length_map, List.length_range]
theorem TreeV.openN_at (t : TreeV) (s m : Nat) {i : Nat} (h : i < (t.openN s m).length) : ((t.openN s m).map encI)[i]? = some (encI (t.opn s i)) := by
 rw [TreeV.openN_length] at h
 unfold TreeV.openN
 simp [h]
theorem treeSmall_walk (t : TreeV) (kz z1 z2 zs : List Int) (v : Value) (w : World) (hl : 0 ≤ t.l ∧ t.l ≤ 4294967295) (h1 : Hold w (.slice t.ka t.kl t.kc) kz) (h2 : Hold w (.slice t.sa t.sl t.sc) z1) (h3 : Hold w (.slice t.pa t.pl t.pc) z2) (hv : Hold w v zs) (hn : zs.length ≤ 4194304) (hk : t.kl ≤ 70368744177664) (hs : t.sl ≤ 70368744177664) (hp : t.pl ≤ 70368744177664) :
  Calls Try.prog 6 #[t.val, v] w (Trues w) := by
 obtain ⟨b0, hb0⟩ : ∃ b0, w.heap.size = b0 := ⟨_, rfl⟩
 have HOWN := hid (fun (W : World) (hb : Below b0 w W) => own10_ok t kz z1 z2 W (h1.below (hb0 ▸ hb)) (h2.below (hb0 ▸ hb)) (h3.below (hb0 ▸ hb)) hk hs hp)
 have hne := fun (h : t.validE ≠ 0) (W : World) (a1 : Option Addr) (c1 : Nat) (a2 : Option Addr) (c2 : Nat) (a3 : Option Addr) (c3 : Nat) => new_err (t.sw a1 c1 a2 c2 a3 c3) W h
 simp only [show ∀ a1 c1 a2 c2 a3 c3, (t.sw a1 c1 a2 c2 a3 c3).validE = t.validE from fun _ _ _ _ _ _ => rfl] at hne
 have HNE := hid hne
 have HNO := hid (fun (h : t.validE = 0) (W : World) (a1 : Option Addr) (c1 : Nat) (a2 : Option Addr) (c2 : Nat) (a3 : Option Addr) (c3 : Nat) (hh : Hold W (.slice a1 t.kl c1) kz ∧ Hold W (.slice a2 t.sl c2) z1 ∧ Hold W (.slice a3 t.pl c3) z2) => new_ok (t.sw a1 c1 a2 c2 a3 c3) kz z1 z2 W ⟨h, hl, hh.1, hh.2.1, hh.2.2⟩)
 have HV := hid hv
 have HN := hid hn
 have HL := hid hl
 have hvo : zs ≠ [] → ∀ k, v.ownBlock = some k → k < b0 := fun hne k hk => by rw [← hb0]; exact hold_own hv hne hk
 have HVO := hid hvo
 obtain ⟨va, vc, rfl, hvc1, hvc2⟩ := id hv.slice
 have hzi : (zs.length : Int) ≤ 4194304 := by omega
 have hbA : Below b0 w (w.alloc (.cells #[.int .i64 t.k, .int .i64 t.d, .int .i64 t.f, .int .i64 t.p, .int .u32 t.l, .int .i64 t.i, .slice t.ka t.kl t.kc, .slice t.sa t.sl t.sc, .slice t.pa t.pl t.pc] 26)) := by rw [← hb0]; exact (Below.refl _ _).alloc (Nat.le_refl _) _
 have hrA := World.alloc_heap_new w (.cells #[.int .i64 t.k, .int .i64 t.d, .int .i64 t.f, .int .i64 t.p, .int .u32 t.l, .int .i64 t.i, .slice t.ka t.kl t.kc, .slice t.sa t.sl t.sc, .slice t.pa t.pl t.pc] 26)
 rw [hb0] at hrA
 clear hl h1 h2 h3 hv hn hk hs hp hne hvo
 unfold TreeV.val at *
 go_enter Try.func6, Try.ntmps6
 go_upto_region 1 with (fail)
 generalize w.alloc (.cells #[.int .i64 t.k, .int .i64 t.d, .int .i64 t.f, .int .i64 t.p, .int .u32 t.l, .int .i64 t.i, .slice t.ka t.kl t.kc, .slice t.sa t.sl t.sc, .slice t.pa t.pl t.pc] 26) = wA at *
 have hsA : b0 < wA.heap.size := (Array.getElem?_eq_some_iff.1 hrA).1
 go_wp2_with fail
 refine (alive_ok wA).mono ?_; rintro e wq ⟨rfl, hbq⟩
 have hrq := rowStay hrA hbq
 have HBwq := hid (hbA.trans (hbq.mono (Nat.le_of_lt hsA)))
 have hswq : b0 < wq.heap.size := (Array.getElem?_eq_some_iff.1 hrq).1
 clear hrA hbA hbq
 go_wp2_with ((with_reducible show wpList _ _ _ (Oper.mk _ (Op.load 26 _) _ _ _ _ :: _) _ _); refine wpList_load_row rfl 26 _ rfl b0 rfl _ _ _ _ hrq Try.underlying26 rfl (by kernel_rfl) ?_)
 refine (HOWN.out wq HBwq.out).mono ?_; rintro e woA ⟨uA, rfl, hu, hb1⟩
 obtain ⟨a1, c1, a2, c2, a3, c3, rfl, k1, k2, k3⟩ := hu
 have HKA := hid (show Hold woA (.slice a1 t.kl c1) kz ∧ Hold woA (.slice a2 t.sl c2) z1 ∧ Hold woA (.slice a3 t.pl c3) z2 from ⟨k1.hold, k2.hold, k3.hold⟩)
 have HBwoA := hid (HBwq.out.trans (hb1.mono (Nat.le_of_lt hswq)))
 have hrwoA := rowStay hrq hb1
 have hswoA : b0 < woA.heap.size := by have := hb1.size; omega
 have HDwoA := hid hb1
 clear k1 k2 k3 hb1 hrq
 unfold TreeV.val
 go_wp2_with fail
 by_cases he : t.validE = 0
 case neg =>
  refine (HNE.out he woA _ _ _ _ _ _).mono ?_; rintro e w3 ⟨rfl, hb3⟩
  have HB3 := hid (HBwoA.out.trans (hb3.mono (Nat.le_of_lt hswoA)))
  have q1 : (t.validE != 0) = true := by simp [he]
  clear he hb3 HNE
  go_wp2_with fail
  go_ret
  exact ⟨rfl, by rw [hb0]; exact HB3.out⟩
 refine (HNO.out he woA _ _ _ _ _ _ HKA.out).mono ?_; rintro e w3 ⟨p, x1, y1, x2, y2, x3, y3, rfl, hst, hb3⟩
 have hst : StrAt (t.sw x1 y1 x2 y2 x3 y3) kz z1 z2 woA.heap.size p [] w3 := hst
 obtain ⟨T, hT⟩ : ∃ T, t.sw x1 y1 x2 y2 x3 y3 = T := ⟨_, rfl⟩
 rw [hT] at hst
 have hTf : T.f = t.f := by rw [← hT]; rfl
 have hTp : T.p = t.p := by rw [← hT]; rfl
 have hTl : T.l = t.l := by rw [← hT]; rfl
 have hTv : T.validE = 0 := by rw [← hT]; exact he
 have HTT := hid (show T.f = t.f ∧ T.p = t.p ∧ T.l = t.l ∧ T.validE = 0 from ⟨hTf, hTp, hTl, hTv⟩)
 have HR3 := hid (rowStay hrwoA hb3)
 have HB3 := hid (HBwoA.out.trans (hb3.mono (Nat.le_of_lt hswoA)))
 have HST := hid hst
 have hs3 : b0 < w3.heap.size := by have := hb3.size; omega
 have hBs : woA.heap.size ≤ w3.heap.size := hb3.size
 obtain ⟨B, hB⟩ : ∃ B, woA.heap.size = B := ⟨_, rfl⟩
 rw [hB] at HST hBs hswoA
 have HBB := hid hB
 have hheld := fun (W : World) (h : StrAt T kz z1 z2 B p zs W) => held_sok T kz z1 z2 B p zs W h
 have hhf := fun (W : World) (h : StrAt T kz z1 z2 B p zs W) => StrAt.held h
 obtain ⟨H, hH⟩ : ∃ H, (zs.drop (T.setN zs.length * T.ln)).length = H := ⟨_, rfl⟩
 rw [hH] at hheld hhf
 have HHE := hid hheld
 have HHF := hid hhf
 have hHb : H ≤ 4194304 := by rw [← hH, List.length_drop]; have := HN.out; omega
 have hln : (T.ln : Int) = t.l := by have := HL.out; rw [← hTl]; unfold TreeV.ln; omega
 have HLN := hid hln
 clear hst hb3 hrwoA HKA HDwoA he HNE HNO hT hTf hTp hTl hTv hB hheld hhf hH hln hswq
 go_upto_region 6 with (fail)
 have hfw : Hid (∀ W, StrAt T kz z1 z2 B p zs W → True) := hid (fun _ _ => trivial)
 have hH0 : ¬ ((H : Int) < 0) := by omega
 have hHu : IntKind.u64.wrap (H : Int) = (H : Int) := u64_wrap_id _ (by omega) (by omega)
 have hlu : IntKind.u64.wrap t.l = t.l := u64_wrap_id _ (by have := HL.out; omega) (by have := HL.out; omega)
 have HLB : Hid (t.validE = t.validE) := hid rfl
 refine wp_region_ac (n := 22) (fun f W => Below B w3 W ∧ (f = false → Below w3.heap.size w3 W) ∧ (f = true → StrAt T kz z1 z2 B p zs W)) 5 [.v 21 (.pointer (some ⟨p, 0, none⟩)), .v 22 (.bool false), .v 23 (.bool false), .v 24 (.pointer (some ⟨p, 0, none⟩)), .v 25 (.slice va zs.length vc), .v 26 (.int .i64 0), .v 27 (.bool false), .v 28 (.bool false), .v 29 (.bool false), .v 30 (.pointer (some ⟨p, 0, none⟩)), .v 31 (.int .i64 (H : Nat)), .v 32 (.bool false), .v 33 (.bool false), .v 34 (.bool false), .v 35 (.pointer (some ⟨p, 0, none⟩)), .v 36 (.int .i64 (H : Nat)), .v 37 (.int .u64 (H : Nat)), .v 38 (.pointer (some ⟨b0, 4, none⟩)), .v 39 (.int .u32 t.l), .v 40 (.int .u64 t.l), .v 41 (.bool false), .v 42 (.bool false)] (by exact trivial) ⟨(Below.refl _ _).drew, fun _ => (Below.refl _ _).drew, fun h => (by cases h)⟩ (fun f W W' h hb => ⟨h.1.trans (hb.mono (by have := h.1.size; omega)), fun e => (h.2.1 e).trans (hb.mono (h.2.1 e).size), fun e => (h.2.2 e).below hb⟩) ?_ ?_ ?_
 ·repeat' (with_reducible first | exact eachO_nil | refine eachO_cons ?_ ?_)
  all_goals try
   refine .inr ?_
   intro A x W f hA hR hf hf2 hx hdep D K hK
   have a1 := hA.2 1 (by decide)
   conv at a1 => rhs; whnf
   have a2 := hA.2 2 (by decide)
   conv at a2 => rhs; whnf
   have a5 := hA.2 5 (by decide)
   conv at a5 => rhs; whnf
   have hbW : b0 < W.heap.size := by have := hR.1.size; omega
   have c4 : W.cell? ⟨b0, 4, none⟩ = some (.int .u32 t.l) := cell_of_heap ((hR.1.block b0 hswoA).trans HR3.out) 4
   simp only [DepF, nthF] at D
   clear hdep hA
   go_simp
   exact hK _ _ BR rfl
  any_goals exact .inl rfl
  all_goals refine .inr ?_
  ·intro A x W f hA hR hf hf2 hx hdep _ K hK
   have g30 := gw hA hdep 9 30
   clear hdep hA
   have hfT : f = true := hf2 (by kernel_rfl)
   go_simp
   refine (HHE.out W (hR.2.2 hfT)).mono ?_; rintro e w5 ⟨rfl, rfl⟩
   exact hK _ _ BR rfl
  ·intro A x W f hA hR hf hf2 hx hdep _ K hK
   have g35 := gw hA hdep 14 35
   clear hdep hA
   have hfT : f = true := hf2 (by kernel_rfl)
   go_simp
   refine (HHE.out W (hR.2.2 hfT)).mono ?_; rintro e w5 ⟨rfl, rfl⟩
   exact hK _ _ BR rfl
  ·intro A x W f hA hR hf hf2 hx hdep _ K hK
   have g37 := gw hA hdep 16 37
   have g40 := gw hA hdep 19 40
   clear hdep hA
   have hfT : f = true := hf2 (by kernel_rfl)
   have hle : ¬ (t.l < (H : Int)) := by
    have := (HHF.out W (hR.2.2 hfT)).1
    have := HLN.out
    omega
   go_simp
   exact hK _ _ BR rfl
 ·intro A x W hA hR hx hdep K hK
  have g24 := gw hA hdep 3 24
  have g25 := gw hA hdep 4 25
  clear hdep hA
  have hbw : Below b0 w W := HB3.out.trans (hR.1.mono (Nat.le_of_lt hswoA))
  go_simp
  refine (write_sok T kz z1 z2 B p [] zs (.slice va zs.length vc) W (HST.out.below (hR.2.1 rfl)) (HV.out.below (hb0 ▸ hbw)) (fun hne k hk => Nat.lt_of_lt_of_le (HVO.out hne k hk) (Nat.le_of_lt hswoA)) (by have := HN.out; simpa using this)).mono ?_
  rintro e w5 ⟨rfl, hs5, hb5⟩
  exact hK _ _ (fun h => by cases h) ⟨hR.1.trans hb5, fun h => (by cases h), fun _ => hs5⟩ ⟨.inr (.inr (fun _ h => h)), .inr (.inr (fun _ h => h)), .inr (.inr (fun _ h => h)), .inr (.inr (fun _ h => h)), .inr (.inr (fun _ h => h)), .inl rfl, .inr (.inr (fun _ h => h)), .inr (.inr (fun _ h => h)), .inr (.inr (fun _ h => h)), .inr (.inr (fun _ h => h)), .inr (.inr (fun _ h => h)), .inr (.inr (fun _ h => h)), .inr (.inr (fun _ h => h)), .inr (.inr (fun _ h => h)), .inr (.inr (fun _ h => h)), .inr (.inr (fun _ h => h)), .inr (.inr (fun _ h => h)), .inr (.inr (fun _ h => h)), .inr (.inr (fun _ h => h)), .inr (.inr (fun _ h => h)), .inr (.inr (fun _ h => h)), .inr (.inr (fun _ h => h)), trivial⟩ rfl
 intro x W hR hall
 clear hall
 refine thenTail_nil ?_
 simp only [layS, Act.put, List.setIfInBounds_toArray, List.set_cons_zero, List.set_cons_succ]
 have hSW := hR.2.2 rfl
 have HSW := hid hSW
 have HR4 := hid ((hR.1.block b0 hswoA).trans HR3.out)
 have HB4 := hid (HB3.out.trans (hR.1.mono (Nat.le_of_lt hswoA)))
 have hs4 : b0 < W.heap.size := by have := hR.1.size; omega
 have HHF2 := hid (HHF.out W hSW)
 have HHW := hid (HHE.out W hSW)
 clear hR hSW HR3 HB3 HST HHE HHF
 have KEY8 : (zs.length = 0) ∨ (0 < zs.length ∧ 0 < H) := by
  by_cases hz : zs.length = 0
  ·exact .inl hz
  ·exact .inr ⟨by omega, HHF2.out.2 (fun e => hz (by rw [e]; rfl))⟩
 rcases KEY8 with hz | ⟨hz, hh⟩
 case' inl =>
  have hz2 : ¬ (0 < (zs.length : Int)) := by omega
  go_upto_region 10 with (fail)
 case' inr =>
  have hz2 : 0 < (zs.length : Int) := by omega
  have hh2 : ((H : Int) == 0) = false := by rw [beq_eq_false_iff_ne]; omega
  go_upto_region 8 with (fail)
  go_wp2_with fail
  refine HHW.out.mono ?_; rintro e w5 ⟨rfl, hww⟩
  obtain rfl : W = w5 := hww.symm
  go_upto_region 10 with (fail)
 all_goals
  clear HHW
  go_wp2_with fail
  refine (open_sok T kz z1 z2 B p zs W HSW.out).mono ?_; rintro e w6 ⟨u, m, rfl, hm, hu, hb6⟩
  obtain ⟨NN, hNN⟩ : ∃ NN, (T.openN (T.setN zs.length) m).length = NN := ⟨_, rfl⟩
  have hml := mostOf_le (T.opn (T.setN zs.length)) m
  have hNm : NN ≤ m := by rw [← hNN, TreeV.openN_length]; exact hml
  have hNb : (NN : Int) ≤ 255 := by have := hm.2.2; omega
  have hmp := TreeV.rowsM_pn HTT.out.2.2.2 hm
  rw [HTT.out.2.1] at hmp
  rw [hNN] at hu
  obtain ⟨ua, un, uc, rfl⟩ := own_slice hu
  obtain rfl : NN = un := (own_len hu).symm
  have c3 : w6.cell? ⟨b0, 3, none⟩ = some (.int .i64 t.p) := cell_of_heap ((hb6.block b0 hs4).trans HR4.out) 3
  have hs6 : b0 < w6.heap.size := by have := hb6.size; omega
  have hpN : ¬ (t.p < (NN : Int)) := by omega
  have HU := hid hu
  have HNN := hid hNN
  have HB6 := hid (HB4.out.trans (hb6.mono (Nat.le_of_lt hs4)))
  have HR6 := hid ((hb6.block b0 hs4).trans HR4.out)
  clear hm hu hb6 hNN hml HR4 HB4
  go_wp2_with fail
  go_loopw [8] (fun i wr => ∃ k : Nat, i = .int .i64 (k : Nat) ∧ k ≤ NN ∧ Below w6.heap.size w6 wr) (fun i _ => NN - (intOf i).toNat)
  case atStart => exact ⟨0, rfl, Nat.zero_le _, Below.refl _ _⟩
  case round =>
   obtain ⟨k, rfl, hk, hb⟩ := hrel
   by_cases hlt : k < NN
   case pos =>
    have hlt2 : (k : Int) < (NN : Int) := by omega
    have hki : (k : Int) ≤ 255 := by omega
    obtain ⟨g, cap, e, -, hg, hcell⟩ := row_at HU.out (by omega)
    simp only [Value.slice.injEq] at e
    obtain ⟨rfl, -, rfl⟩ := e
    have ck := hcell k _ (TreeV.openN_at T _ m (by rw [HNN.out]; exact hlt))
    have ckr := (hb.cell (p := ⟨g, k, none⟩) hg).trans ck
    unfold encI at ckr
    have hgr : g < wr.heap.size := by have := hb.size; omega
    have hsm := fun h1 h2 => TreeV.opn_small HTT.out.2.2.2 (s := T.setN zs.length) (r := k) h1 h2
    generalize T.opn (T.setN zs.length) k = n at *
    have hTp := TreeV.pn_is HTT.out.2.2.2
    rw [HTT.out.2.1] at hTp
    have hTf := (TreeV.valid_facts HTT.out.2.2.2).2.2.2.2.2.1
    rw [HTT.out.1] at hTf
    rw [HTT.out.1, HTT.out.2.1] at hsm
    have KEY : ¬ (0 < t.f) ∨ ((0 < t.f ∧ ¬ ((k : Int) + 2 < t.p)) ∨ (0 < t.f ∧ (k : Int) + 2 < t.p ∧ ¬ (t.f - 1 < (n : Int)))) := by
     by_cases k1 : 0 < t.f
     ·by_cases k2 : (k : Int) + 2 < t.p
      ·exact .inr (.inr ⟨k1, k2, by have := hsm k1 k2; omega⟩)
      ·exact .inr (.inl ⟨k1, k2⟩)
     ·exact .inl k1
    have hk2 : IntKind.i64.wrap ((k : Int) + 2) = (k : Int) + 2 := by rw [IntKind.wrap_i64] <;> omega
    have hf1 : IntKind.i64.wrap (t.f - 1) = t.f - 1 := by rw [IntKind.wrap_i64] <;> omega
    have hrr := rowStay HR6.out hb
    have c2 : wr.cell? ⟨b0, 2, none⟩ = some (.int .i64 t.f) := cell_of_heap hrr 2
    have c3 : wr.cell? ⟨b0, 3, none⟩ = some (.int .i64 t.p) := cell_of_heap hrr 3
    have hb0r : b0 < wr.heap.size := (Array.getElem?_eq_some_iff.1 hrr).1
    have hn0 : ¬ ((n : Int) < 0) := by omega
    have HB := hid hb
    clear hb ck hsm hTp hTf hrr hcell
    go_upto_region 16 with (fail)
    rcases KEY with k1 | ⟨k1, k2⟩ | ⟨k1, k2, k3⟩
    all_goals
     go_quiet (fail)
     go_wp2_with fail
     exact ⟨⟨k + 1, by go_num, by omega, HB.out.trans ((below_drewN wr nq).mono HB.out.size)⟩, by simp [intOf] <;> omega⟩
   obtain rfl : k = NN := by omega
   have HBF := hid (show Below w.heap.size w wr from by rw [hb0]; exact HB6.out.trans (hb.mono (Nat.le_of_lt hs6)))
   by_cases hk0 : k = 0
   case pos =>
    subst hk0
    clear hb
    go_wp2_with fail
    go_ret
    exact ⟨rfl, HBF.out⟩
   obtain ⟨g, cap, e, -, hg, hcell⟩ := row_at HU.out (by omega)
   simp only [Value.slice.injEq] at e
   obtain ⟨rfl, -, rfl⟩ := e
   obtain ⟨q, hq⟩ : ∃ q, k - 1 = q := ⟨_, rfl⟩
   have ck := hcell q _ (TreeV.openN_at T _ m (by rw [HNN.out]; omega))
   have ckr := (hb.cell (p := ⟨g, q, none⟩) hg).trans ck
   unfold encI at ckr
   have hgr : g < wr.heap.size := by have := hb.size; omega
   have hpos := mostOf_pos (f := T.opn (T.setN zs.length)) (k := m) (by have := HNN.out; rw [TreeV.openN_length] at this; omega)
   rw [show mostOf (T.opn (T.setN zs.length)) m = k by have := HNN.out; rw [TreeV.openN_length] at this; exact this, hq] at hpos
   generalize T.opn (T.setN zs.length) q = n at *
   have hn0 : 0 < (n : Int) := by omega
   have hwq : IntKind.i64.wrap ((k : Int) - 1) = (q : Int) := by rw [IntKind.wrap_i64] <;> omega
   have hk1 : ((k : Int) == 0) = false := by rw [beq_eq_false_iff_ne]; omega
   have hqk : (q : Int) < (k : Int) := by omega
   have hnz : ¬ ((q : Int) < 0) := by omega
   clear hb ck hcell hpos hq
   go_wp2_with fail
   go_ret
   exact ⟨by show Ending.returned (.bool (decide (0 < n))) = _; rw [decide_eq_true (show 0 < n by omega)], HBF.out⟩
end Go.Proofs.Ytchepcilkcdemaa
namespace Go.Proofs.Ytchepcilkcdemaa
open Go.ChangeShapes Go.WideShapes Go.ChangeAt Go.RowKit Go.Joins Go.Shelf Go.Maps
open Go.Lib (hid)
theorem treeSmall_call {H : Type} (enc : TypeId × Value → H) (W : World) (base : Nat) (args : Array Value) (ds : List (DataW H)) (p : List MemPlace)
  (hval : ∀ (j : Nat) t v, Try.f6.params[j]? = some t → args[j]? = some v → Value.okWide Try.prog W .any base t v)
  (hA : DataW.TrodAll enc Try.prog W 0 (fun _ => true) true Try.f6.params.toList args.toList ds p) (hlt : ∀ x ∈ p, x.block < W.heap.size)
  (hk : Rows.uptoSmall H ds = true) :
  Calls Try.prog 6 args W (Trues W) := by
 rw [Try.params6] at hA hval
 obtain ⟨v0, v1, d0, d1, p0, p1, rfl, rfl, rfl, h0, h1⟩ := trodAll_two hA
 have hb : Rows.uptoBulk d0 + (Rows.uptoBulk d1 + 0) ≤ 1048576 := of_decide_eq_true hk
 obtain ⟨t, kz, z1, z2, rfl, hl, ht, b1, b2, b3⟩ := openH_tree (hval 0 26 v0 rfl rfl) h0 (fun x hx => hlt x (by simp [hx]))
 obtain ⟨zs, hz, hm⟩ := openH_bytes (hval 1 24 v1 rfl rfl) h1 (fun x hx => hlt x (by simp [hx]))
 have e1 := hold_len ht.k
 have e2 := hold_len ht.s
 have e3 := hold_len ht.p
 exact treeSmall_walk t kz z1 z2 zs v1 W hl ht.k ht.s ht.p hz (by omega) (by omega) (by omega) (by omega)
theorem treeSmall_lifted (os : Os) (started : os.Started) (H : Type) (enc : TypeId × Value → H) (F0 : Stop.Interp) :
  ReturnsInHanded {} Try.checked os 6 .any ((Rows.OpenSpec.upto Rows.treeSmallSpec).pre6 enc Try.prog Try.f6 Rows.treeSmallUptoRow.domain false) (((Rows.OpenSpec.upto Rows.treeSmallSpec).at F0).post enc Try.prog Try.f6 false true false false) := by
 refine returnsInHanded_of_cond_sized (C := Try.checked) (s := Rows.OpenSpec.upto Rows.treeSmallSpec) (k := Rows.uptoSmall) rfl own started (by kernel_rfl) Try.func6
  (OpenSpec.witness (enc := enc) (C := Try.checked) (s := Rows.OpenSpec.upto Rows.treeSmallSpec) (k := Rows.uptoSmall) rfl false ⟨#[], #[.agg #[.int .i64 0, .int .i64 0, .int .i64 0, .int .i64 0, .int .u32 0, .int .i64 0, .slice none 0 0, .slice none 0 0, .slice none 0 0], .slice none 0 0], []⟩ 40 (by kernel_rfl) (by kernel_rfl) (by kernel_rfl)
   (x := ([.agg [.lit (.int .i64 0), .lit (.int .i64 0), .lit (.int .i64 0), .lit (.int .i64 0), .lit (.int .u32 0), .lit (.int .i64 0), .nil, .nil, .nil], .nil], [], [])) (by kernel_rfl) (by kernel_rfl) (by kernel_rfl)) ?_
 intro W base args ds gs before hval0 hW hcnd hk hz _
 have hW' := hW
 obtain ⟨p, q, hA0, hV, rfl, hfz, hnd⟩ := hW
 have hA : DataW.TrodAll enc Try.prog W 0 (fun _ => true) true Try.f6.params.toList args.toList ds p := hA0
 obtain ⟨rfl, rfl⟩ := trodVars_none hV
 have hk' : Rows.uptoSmall H ds = true := by rw [← List.append_nil ds]; exact hk
 refine (treeSmall_call enc W base args ds p hval0 hA (fun x hx => hW'.lt x (by simpa using hx)) hk').mono fun e W' h => ⟨_, h.1, ?_⟩
 refine post_of_trues (s := (Rows.OpenSpec.upto Rows.treeSmallSpec).at F0) laidOut _ rfl Try.underlying4 (by decide +kernel) rfl hW' ?_ h.2
 have hA' := hA
 rw [Try.params6] at hA'
 obtain ⟨v0, v1, d0, d1, p0, p1, rfl, rfl, _⟩ := trodAll_two hA'
 rfl
theorem treeSmall_holds : Rows.TreeSmallUptoSaid :=
 OpenClaim.holds_of_cond 6 Try.f6 rfl rfl rfl rfl rfl rfl rfl ⟨rfl, rfl, rfl, rfl, rfl⟩ rfl rfl rfl rfl rfl (by kernel_rfl) Try.func6 (by kernel_rfl)
  (of_decide_eq_true (by kernel_rfl)) (by unfold Func.isWrapper; first | (rw [if_pos (by decide +kernel)]; kernel_rfl) | (rw [if_neg (by decide +kernel)]; exact ⟨rfl, rfl⟩))
  (fun os started H enc _ F0 => by rw [OpenClaim.pre_of_none' rfl]; exact treeSmall_lifted os started H enc F0)
#print axioms treeSmall_holds
end Go.Proofs.Ytchepcilkcdemaa
