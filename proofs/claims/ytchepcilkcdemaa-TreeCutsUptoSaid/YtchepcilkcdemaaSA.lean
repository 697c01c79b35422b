/- TreeCuts: for every tree, every bytes and every cuts the law returns true (walk). No condition. -/
import Derived.Test.YtchepcilkcdemaaS44
import Derived.Test.YtchepcilkcdemaaS45
import Derived.Test.YtchepcilkcdemaaS46
import Derived.Test.YtchepcilkcdemaaS34
import Derived.Deep.DeepCutAuto
import Derived.Deep.CondSized
import Derived.JoinedCond
set_option linter.all false
set_option maxRecDepth 100000
set_option maxHeartbeats 8000000
namespace Go.Proofs.Ytchepcilkcdemaa
open Go.ChangeShapes Go.WideShapes Go.ChangeAt Go.RowKit Go.Joins Go.Shelf Go.Maps
open Go.Lib (hid)
attribute [local go_sem] Oper.semAt_some
theorem treeCuts_walk (t : TreeV) (kz z1 z2 zs cs : List Int) (v v2 : Value) (w : World) (hl : 0 ≤ t.l ∧ t.l ≤ 4294967295) (h1 : Hold w (.slice t.ka t.kl t.kc) kz) (h2 : Hold w (.slice t.sa t.sl t.sc) z1) (h3 : Hold w (.slice t.pa t.pl t.pc) z2) (hv : Hold w v zs) (hc : IntsH w v2 cs) (hn : zs.length ≤ 4194304) (hk : t.kl ≤ 70368744177664) (hs : t.sl ≤ 70368744177664) (hp : t.pl ≤ 70368744177664) :
  Calls Try.prog 5 #[t.val, v, v2] w (Trues w) := by
 obtain ⟨b0, hb0⟩ : ∃ b0, w.heap.size = b0 := ⟨_, rfl⟩
 have HOWN := hid (fun (W : World) (hb : Below b0 w W) => own10_ok t kz z1 z2 W (h1.below (hb0 ▸ hb)) (h2.below (hb0 ▸ hb)) (h3.below (hb0 ▸ hb)) hk hs hp)
 have hne := fun (h : t.validE ≠ 0) (W : World) (a1 : Option Addr) (c1 : Nat) (a2 : Option Addr) (c2 : Nat) (a3 : Option Addr) (c3 : Nat) => new_err (t.sw a1 c1 a2 c2 a3 c3) W h
 have hha := fun (zz : List Int) (hz : zz.length ≤ 4194304) (W : World) (a1 : Option Addr) (c1 : Nat) (a2 : Option Addr) (c2 : Nat) (a3 : Option Addr) (c3 : Nat) (hh : Hold W (.slice a1 t.kl c1) kz ∧ Hold W (.slice a2 t.sl c2) z1 ∧ Hold W (.slice a3 t.pl c3) z2) (x : Value) (hx : Hold W x zz) => hash_any (t.sw a1 c1 a2 c2 a3 c3) kz z1 z2 zz x W hl hh.1 hh.2.1 hh.2.2 hx hz
 unfold DigIs at hha
 simp only [TreeV.digZ_sw, show ∀ a1 c1 a2 c2 a3 c3, (t.sw a1 c1 a2 c2 a3 c3).validE = t.validE from fun _ _ _ _ _ _ => rfl] at hne hha
 have HNE := hid hne
 have HHA := hid hha
 have HNO := hid (fun (h : t.validE = 0) (W : World) (a1 : Option Addr) (c1 : Nat) (a2 : Option Addr) (c2 : Nat) (a3 : Option Addr) (c3 : Nat) (hh : Hold W (.slice a1 t.kl c1) kz ∧ Hold W (.slice a2 t.sl c2) z1 ∧ Hold W (.slice a3 t.pl c3) z2) => new_ok (t.sw a1 c1 a2 c2 a3 c3) kz z1 z2 W ⟨h, hl, hh.1, hh.2.1, hh.2.2⟩)
 have HDL := hid (fun (h : t.validE = 0) => TreeV.dig_len h hl kz z1 z2 zs hn)
 have HV := hid hv
 have HC := hid hc
 have HN := hid hn
 have hvo : zs ≠ [] → ∀ k, v.ownBlock = some k → k < b0 := fun hne k hk => by rw [← hb0]; exact hold_own hv hne hk
 have HVO := hid hvo
 obtain ⟨va, vc, rfl, hvc1, hvc2⟩ := id hv.slice
 obtain ⟨-, ca, cc, rfl, hcc1, hcc2, -⟩ := id hc
 have hzi : (zs.length : Int) ≤ 4194304 := by omega
 have hci : (cs.length : Int) ≤ 9223372036854775807 := by omega
 have hvci : (zs.length : Int) ≤ vc := by omega
 have hbA : Below b0 w (w.alloc (.cells #[.int .i64 t.k, .int .i64 t.d, .int .i64 t.f, .int .i64 t.p, .int .u32 t.l, .int .i64 t.i, .slice t.ka t.kl t.kc, .slice t.sa t.sl t.sc, .slice t.pa t.pl t.pc] 26)) := by rw [← hb0]; exact (Below.refl _ _).alloc (Nat.le_refl _) _
 have hrA := World.alloc_heap_new w (.cells #[.int .i64 t.k, .int .i64 t.d, .int .i64 t.f, .int .i64 t.p, .int .u32 t.l, .int .i64 t.i, .slice t.ka t.kl t.kc, .slice t.sa t.sl t.sc, .slice t.pa t.pl t.pc] 26)
 rw [hb0] at hrA
 clear hl h1 h2 h3 hv hc hn hk hs hp hne hha hvo
 unfold TreeV.val at *
 go_enter Try.func5, Try.ntmps5
 go_upto_region 1 with (fail)
 generalize w.alloc (.cells #[.int .i64 t.k, .int .i64 t.d, .int .i64 t.f, .int .i64 t.p, .int .u32 t.l, .int .i64 t.i, .slice t.ka t.kl t.kc, .slice t.sa t.sl t.sc, .slice t.pa t.pl t.pc] 26) = wA at *
 have hsA : b0 < wA.heap.size := (Array.getElem?_eq_some_iff.1 hrA).1
 go_wp2_with fail
 refine (alive_ok wA).mono ?_; rintro e wq ⟨rfl, hbq⟩
 have hrq := rowStay hrA hbq
 have HBwq := hid (hbA.trans (hbq.mono (Nat.le_of_lt hsA)))
 have hswq : b0 < wq.heap.size := (Array.getElem?_eq_some_iff.1 hrq).1
 clear hrA hbA hbq
 go_wp2_with ((with_reducible show wpList _ _ _ (Oper.mk _ (Op.load 26 _) _ _ _ _ :: _) _ _); refine wpList_load_row rfl 26 _ rfl b0 rfl _ _ _ _ hrq Try.underlying26 rfl (by kernel_rfl) ?_)
 refine (HOWN.out wq HBwq.out).mono ?_; rintro e woA ⟨uA, rfl, hu, hb1⟩
 obtain ⟨a1, c1, a2, c2, a3, c3, rfl, k1, k2, k3⟩ := hu
 have HKA := hid (show Hold woA (.slice a1 t.kl c1) kz ∧ Hold woA (.slice a2 t.sl c2) z1 ∧ Hold woA (.slice a3 t.pl c3) z2 from ⟨k1.hold, k2.hold, k3.hold⟩)
 have HBwoA := hid (HBwq.out.trans (hb1.mono (Nat.le_of_lt hswq)))
 have hrwoA := rowStay hrq hb1
 have hswoA : b0 < woA.heap.size := by have := hb1.size; omega
 have HDwoA := hid hb1
 clear k1 k2 k3 hb1 hrq
 unfold TreeV.val
 go_wp2_with fail
 refine (HHA.out zs HN.out woA _ _ _ _ _ _ HKA.out _ (HV.out.below (hb0 ▸ HBwoA.out))).mono ?_; rintro e w2 ⟨d, rfl, hd, hb2⟩
 have hr2 := rowStay hrwoA hb2
 have HBw2 := hid (HBwoA.out.trans (hb2.mono (Nat.le_of_lt hswoA)))
 have hsw2 : b0 < w2.heap.size := (Array.getElem?_eq_some_iff.1 hr2).1
 have HD := hid (hd.le (Nat.le_of_lt hswoA))
 obtain ⟨da, dc, rfl, -, -⟩ := id hd.hold.slice
 clear hd hb2 hrwoA HKA HDwoA
 go_wp2_with ((with_reducible show wpList _ _ _ (Oper.mk _ (Op.load 26 _) _ _ _ _ :: _) _ _); refine wpList_load_row rfl 26 _ rfl b0 rfl _ _ _ _ hr2 Try.underlying26 rfl (by kernel_rfl) ?_)
 refine (HOWN.out w2 HBw2.out).mono ?_; rintro e woB ⟨uB, rfl, hu, hb1⟩
 obtain ⟨a1, c1, a2, c2, a3, c3, rfl, k1, k2, k3⟩ := hu
 have HKB := hid (show Hold woB (.slice a1 t.kl c1) kz ∧ Hold woB (.slice a2 t.sl c2) z1 ∧ Hold woB (.slice a3 t.pl c3) z2 from ⟨k1.hold, k2.hold, k3.hold⟩)
 have HBwoB := hid (HBw2.out.trans (hb1.mono (Nat.le_of_lt hsw2)))
 have hrwoB := rowStay hr2 hb1
 have hswoB : b0 < woB.heap.size := by have := hb1.size; omega
 have HDwoB := hid hb1
 clear k1 k2 k3 hb1 hr2
 unfold TreeV.val
 go_wp2_with fail
 by_cases he : t.validE = 0
 case neg =>
  refine (HNE.out he woB _ _ _ _ _ _).mono ?_; rintro e w3 ⟨rfl, hb3⟩
  have HB3 := hid (HBwoB.out.trans (hb3.mono (Nat.le_of_lt hswoB)))
  have q1 : (t.validE != 0) = true := by simp [he]
  have q2 : (t.validE != t.validE) = false := by simp
  clear he hb3 HNE
  go_wp2_with fail
  go_ret
  exact ⟨rfl, by rw [hb0]; exact HB3.out⟩
 refine (HNO.out he woB _ _ _ _ _ _ HKB.out).mono ?_; rintro e w3 ⟨p, x1, y1, x2, y2, x3, y3, rfl, hst, hb3⟩
 replace hst : StrAt (t.sw x1 y1 x2 y2 x3 y3) kz z1 z2 woB.heap.size p [] w3 := hst
 obtain ⟨T, hT⟩ : ∃ T, t.sw x1 y1 x2 y2 x3 y3 = T := ⟨_, rfl⟩
 rw [hT] at hst
 have hdT : ∀ zz, T.digZ kz z1 z2 zz = t.digZ kz z1 z2 zz := fun zz => by rw [← hT, TreeV.digZ_sw]
 have HDT := hid hdT
 have HRB := hid hrwoB
 have HDB := hid (HD.out.kb (KB.of_below HDwoB.out (Nat.zero_le _))).hold
 have HST := hid hst
 have HB3 := hid hb3
 have hBs : woB.heap.size ≤ w3.heap.size := hb3.size
 have q1 : (t.validE != 0) = false := by simp [he]
 have HE := hid he
 clear hst hb3 hrwoB HKB HDwoB he HNE HNO hT hdT HD hswq hswoA hsw2 HBwq HBwoA HBw2
 go_wp2_with fail
 go_loopw [11, 12] (fun a i wr => ∃ k j : Nat, a = .int .i64 (k : Nat) ∧ i = .int .i64 (j : Nat) ∧ k ≤ zs.length ∧ j ≤ cs.length ∧ StrAt T kz z1 z2 woB.heap.size p (zs.take k) wr ∧ Below woB.heap.size woB wr) (fun _ i _ => cs.length - (intOf i).toNat)
 case atStart => exact ⟨0, 0, rfl, rfl, Nat.zero_le _, Nat.zero_le _, HST.out, HB3.out⟩
 case round =>
  clear HST HB3 hBs w3
  obtain ⟨k, j, rfl, rfl, hk, hj, hst, hb⟩ := hrel
  have hsr : woB.heap.size ≤ wr.heap.size := hb.size
  have HST := hid hst
  have HB := hid hb
  clear hst hb
  have hki : (k : Int) ≤ (zs.length : Int) := by omega
  by_cases hlt : j < cs.length
  case pos =>
   have hlt2 : (j : Int) < (cs.length : Int) := by omega
   obtain ⟨hrange, ca', cc', e, -, -, h3⟩ := (HC.out.below (hb0 ▸ HBwoB.out)).below HB.out
   obtain ⟨g, off, rfl, hg, hcell⟩ := h3.resolve_left (fun e => by rw [e] at hlt; simp at hlt)
   simp only [Value.slice.injEq] at e
   obtain ⟨rfl, -, rfl⟩ := e
   have cj := hcell j hlt
   have hrg := hrange (nthz cs j) (by unfold nthz; rw [List.getD_eq_getElem?_getD, List.getElem?_eq_getElem hlt]; exact List.getElem_mem hlt)
   obtain ⟨n, hnn⟩ : ∃ n, nthz cs j = n := ⟨_, rfl⟩
   rw [hnn] at cj hrg
   obtain ⟨hrg1, hrg2⟩ := hrg
   have hwl : IntKind.i64.wrap ((zs.length : Int) - (k : Int)) = (zs.length : Int) - (k : Int) := by rw [IntKind.wrap_i64] <;> omega
   obtain ⟨m, qb, hqm, hqt, hqf⟩ : ∃ (m : Nat) (qb : Bool), k + m ≤ zs.length ∧ (qb = true → m = 0 ∧ (n < 0 ∨ (zs.length : Int) - (k : Int) < n)) ∧ (qb = false → n = (m : Int) ∧ ¬ (n < 0) ∧ ¬ ((zs.length : Int) - (k : Int) < n)) := by
    by_cases h8 : n < 0 ∨ (zs.length : Int) - (k : Int) < n
    ·exact ⟨0, true, by omega, fun _ => ⟨rfl, h8⟩, fun e => by cases e⟩
    ·exact ⟨n.toNat, false, by omega, fun e => (by cases e), fun _ => ⟨by omega, by omega, by omega⟩⟩
   have HQT := hid hqt
   have HQF := hid hqf
   clear hcell hrange hqt hqf h3 hnn
   have hge : g < wr.heap.size := hg
   go_upto_region 14 with (fail)
   go_cut [62] (fun u W => u = .bool qb ∧ W = wr)
   case first =>
    cases qb
    ·obtain ⟨-, f1, f2⟩ := HQF.out rfl
     go_wp2_with fail
     go_meet
     case rel => exact ⟨rfl, rfl⟩
    ·rcases (HQT.out rfl).2 with f1 | f1
     ·go_wp2_with fail
      go_meet
      case rel => exact ⟨rfl, rfl⟩
     ·by_cases f2 : n < 0
      ·go_wp2_with fail
       go_meet
       case rel => exact ⟨rfl, rfl⟩
      ·go_wp2_with fail
       go_meet
       case rel => exact ⟨rfl, rfl⟩
   case rest =>
    obtain ⟨rfl, hww⟩ := hcut
    obtain rfl : wr = wc := hww.symm
    go_upto_if 62 with (fail)
    go_cut [13] (fun u W => u = .int .i64 (m : Nat) ∧ W = wr)
    case first =>
     cases qb
     ·obtain ⟨rfl, -, -⟩ := HQF.out rfl
      go_wp2_with fail
      go_meet
      case rel => exact ⟨rfl, rfl⟩
     ·obtain ⟨rfl, -⟩ := HQT.out rfl
      go_wp2_with fail
      go_meet
      case rel => exact ⟨rfl, rfl⟩
    case rest =>
     obtain ⟨rfl, hww⟩ := hcut
     obtain rfl : wr = wc := hww.symm
     clear cj hge hwl HQT HQF
     obtain ⟨k2, hk2⟩ : ∃ k2, k + m = k2 := ⟨_, rfl⟩
     have hwk : IntKind.i64.wrap ((k : Int) + (m : Int)) = (k2 : Int) := by rw [IntKind.wrap_i64] <;> omega
     have hk3 : (k : Int) ≤ (k2 : Int) ∧ (k2 : Int) ≤ (vc : Int) ∧ (k2 : Int) ≤ zs.length := by omega
     obtain ⟨hk3, hk4, hk5⟩ := hk3
     have HK2 := hid hk2
     clear hk2
     have hsub := hold_sub (lo := k) (hi := k2) ((HV.out.below (hb0 ▸ HBwoB.out)).below HB.out) (by omega) (by omega)
     have hsubB := hold_sub (lo := k) (hi := k2) (HV.out.below (hb0 ▸ HBwoB.out)) (by omega) (by omega)
     have hvB : (zs.drop k).take (k2 - k) ≠ [] → ∀ g, (Value.slice (if vc = k then va else va.map (·.add k)) (k2 - k) (vc - k)).ownBlock = some g → g < woB.heap.size := fun hne g hg => hold_own hsubB hne hg
     have HSUB := hid hsub
     have HVB := hid hvB
     have hXl : (zs.take k).length + ((zs.drop k).take (k2 - k)).length ≤ 4194304 := by
      have := HK2.out
      rw [List.length_take, List.length_take, List.length_drop]; have := HN.out; omega
     have HXL := hid hXl
     have hap : zs.take k ++ (zs.drop k).take (k2 - k) = zs.take k2 := by
      have := HK2.out
      rw [← List.take_add]
      congr 1
      omega
     have HAP := hid hap
     clear hsub hsubB hvB hXl hap
     go_upto_region 16 with (fail)
     go_cut [71] (fun u W => u = .bool false ∧ StrAt T kz z1 z2 woB.heap.size p (zs.take k2) W ∧ Below woB.heap.size wr W)
     case first =>
      by_cases hck : vc = k
      case pos =>
       have hsub := HSUB.out
       rw [if_pos hck] at hsub
       have HSUB2 := hid hsub
       have hvb2 := HVB.out
       rw [if_pos hck] at hvb2
       have HVB2 := hid hvb2
       clear hsub HSUB hvb2 HVB
       subst hck
       go_wp2_with fail
       refine (write_sok T kz z1 z2 woB.heap.size p (zs.take vc) ((zs.drop vc).take (k2 - vc)) _ wr HST.out (by rw [Nat.sub_self] at HSUB2; exact HSUB2.out) (by have h8 := HVB2.out; rw [Nat.sub_self] at h8; exact h8) HXL.out).mono ?_
       rintro e w5 ⟨rfl, hs5, hb5⟩
       rw [HAP.out] at hs5
       have HS5 := hid hs5
       have HB5 := hid hb5
       clear hs5 hb5
       go_wp2_with fail
       go_meet
       case rel => exact ⟨rfl, HS5.out, HB5.out⟩
      have hsub := HSUB.out
      rw [if_neg hck] at hsub
      have HSUB2 := hid hsub
      clear hsub HSUB
      go_wp2_with fail
      refine (write_sok T kz z1 z2 woB.heap.size p (zs.take k) ((zs.drop k).take (k2 - k)) _ wr HST.out HSUB2.out (by have h8 := HVB.out; rw [if_neg hck] at h8; exact h8) HXL.out).mono ?_
      rintro e w5 ⟨rfl, hs5, hb5⟩
      rw [HAP.out] at hs5
      have HS5 := hid hs5
      have HB5 := hid hb5
      clear hs5 hb5
      go_wp2_with fail
      go_meet
      case rel => exact ⟨rfl, HS5.out, HB5.out⟩
     case rest =>
      obtain ⟨rfl, hs5, hb5⟩ := hcut
      have HS5 := hid hs5
      have HB5 := hid (HB.out.trans hb5)
      have hs5r : woB.heap.size ≤ wc.heap.size := HB5.out.size
      clear hs5 hb5 HST HB HSUB HVB HXL HAP hsr
      obtain ⟨V, rfl⟩ : ∃ V, V = wc := ⟨_, rfl⟩
      have hVw : Below b0 w V := HBwoB.out.trans (HB5.out.mono (Nat.le_of_lt hswoB))
      have HVW := hid hVw
      have HRV := hid ((HB5.out.block b0 hswoB).trans HRB.out)
      have hbV : b0 < V.heap.size := by omega
      have hVd : Hold V (.slice va k2 vc) (zs.take k2) := hold_take (HV.out.below (hb0 ▸ hVw)) (by omega)
      have HVD := hid hVd
      have htl : (zs.take k2).length ≤ 4194304 := by rw [List.length_take]; have := HN.out; omega
      have hhh := HHA.out (zs.take k2) htl
      obtain ⟨FZ, hFZ⟩ : ∃ z, t.digZ kz z1 z2 (zs.take k2) = z := ⟨_, rfl⟩
      rw [hFZ] at hhh
      have HHH := hid hhh
      have HFZ := hid hFZ
      clear hVw hVd htl hhh hFZ
      go_upto_region 19 with (fail)
      refine wp_region_c (n := 11) (w0 := V) (B := V.heap.size) [.v 76 (.agg #[.int .i64 t.k, .int .i64 t.d, .int .i64 t.f, .int .i64 t.p, .int .u32 t.l, .int .i64 t.i, .slice t.ka t.kl t.kc, .slice t.sa t.sl t.sc, .slice t.pa t.pl t.pc]), .p 77 (fun u W => ∃ a1 c1 a2 c2 a3 c3, u = TreeV.val (t.sw a1 c1 a2 c2 a3 c3) ∧ Hold W (.slice a1 t.kl c1) kz ∧ Hold W (.slice a2 t.sl c2) z1 ∧ Hold W (.slice a3 t.pl c3) z2), .v 78 (.slice va zs.length vc), .v 79 (.int .i64 (k2 : Nat)), .v 80 (.slice va k2 vc), .p 81 (fun u W => ∃ x, u = .tuple #[x, .int .i64 t.validE] ∧ OwnB V.heap.size W x FZ), .p 75 (fun u W => ∃ x, u = .tuple #[x, .int .i64 t.validE] ∧ OwnB V.heap.size W x FZ), .p 82 (fun u W => OwnB V.heap.size W u FZ), .v 83 (.int .i64 t.validE), .p 14 (fun u W => OwnB V.heap.size W u FZ), .v 15 (.int .i64 t.validE)] (by exact ⟨(fun v W W' h hb => by obtain ⟨a1, c1, a2, c2, a3, c3, e, h1, h2, h3⟩ := h; exact ⟨a1, c1, a2, c2, a3, c3, e, h1.below hb, h2.below hb, h3.below hb⟩), (fun v W W' h hb => by obtain ⟨x, e, h1⟩ := h; exact ⟨x, e, h1.kb (KB.of_below hb (Nat.zero_le _))⟩), (fun v W W' h hb => by obtain ⟨x, e, h1⟩ := h; exact ⟨x, e, h1.kb (KB.of_below hb (Nat.zero_le _))⟩), (fun v W W' h hb => OwnB.kb h (KB.of_below hb (Nat.zero_le _))), (fun v W W' h hb => OwnB.kb h (KB.of_below hb (Nat.zero_le _))), trivial⟩) (Below.refl _ _).drew (Nat.le_refl _) ?_ ?_
      ·repeat' (with_reducible first | exact eachO_nil | refine eachO_cons ?_ ?_)
       all_goals try
        intro AA x W hA hW hBW hdep D K hK
        have a1 := hA.2 1 (by decide)
        conv at a1 => rhs; whnf
        have a11 := hA.2 11 (by decide)
        conv at a11 => rhs; whnf
        simp only [DepF, nthF] at D
        clear hdep hA
        go_simp
        exact hK _ _ (Below.refl _ _) rfl
       ·intro AA x W hA hW hBW hdep _ K hK
        have a3 := hA.2 3 (by decide)
        conv at a3 => rhs; whnf
        clear hdep hA
        exact wp_load_part 26 _ rfl b0 0 a3 26 #[.int .i64 t.k, .int .i64 t.d, .int .i64 t.f, .int .i64 t.p, .int .u32 t.l, .int .i64 t.i, .slice t.ka t.kl t.kc, .slice t.sa t.sl t.sc, .slice t.pa t.pl t.pc] #[.int .i64 t.k, .int .i64 t.d, .int .i64 t.f, .int .i64 t.p, .int .u32 t.l, .int .i64 t.i, .slice t.ka t.kl t.kc, .slice t.sa t.sl t.sc, .slice t.pa t.pl t.pc] (0, 0) _ (rowStay HRV.out hW) Try.underlying26 rfl (by kernel_rfl) (fun j _ => by rw [Nat.zero_add]) (hK _ _ (Below.refl _ _) rfl)
       ·intro AA x W hA hW hBW hdep _ K hK
        have g76 := gv hA hdep 0 76
        clear hdep hA
        go_simp
        refine (HOWN.out W (HVW.out.trans (hW.mono (Nat.le_of_lt hbV)))).mono ?_; rintro e w5 ⟨u5, rfl, ⟨a1, c1, a2, c2, a3, c3, e5, k1, k2', k3⟩, hb5⟩
        exact hK _ _ hb5 ⟨a1, c1, a2, c2, a3, c3, e5, k1.hold, k2'.hold, k3.hold⟩
       ·intro AA x W hA hW hBW hdep D K hK
        have g80 := gv hA hdep 4 80
        simp only [DepF, nthF] at D
        obtain ⟨⟨a1, c1, a2, c2, a3, c3, e5, k1, k2q, k3⟩, -⟩ := D
        have g77 : AA.tmps[77]?.getD undef = TreeV.val (t.sw a1 c1 a2 c2 a3 c3) := by rw [← Array.getD_eq_getD_getElem?]; exact e5
        clear hdep hA e5
        go_simp
        refine (HHH.out W a1 c1 a2 c2 a3 c3 ⟨k1, k2q, k3⟩ _ (HVD.out.below hW)).mono ?_; rintro e w5 ⟨x9, rfl, ho9, hb5⟩
        exact hK _ _ hb5 ⟨x9, rfl, ho9.le hBW⟩
       ·intro AA x W hA hW hBW hdep D K hK
        simp only [DepF, nthF] at D
        obtain ⟨⟨x9, e9, ho9⟩, -⟩ := D
        have g81 : AA.tmps[81]?.getD undef = .tuple #[x9, .int .i64 t.validE] := by rw [← Array.getD_eq_getD_getElem?]; exact e9
        clear hdep hA e9
        go_simp
        exact hK _ _ (Below.refl _ _) ⟨x9, rfl, ho9⟩
       ·intro AA x W hA hW hBW hdep D K hK
        simp only [DepF, nthF] at D
        obtain ⟨⟨x9, e9, ho9⟩, -⟩ := D
        have g75 : AA.tmps[75]?.getD undef = .tuple #[x9, .int .i64 t.validE] := by rw [← Array.getD_eq_getD_getElem?]; exact e9
        clear hdep hA e9
        go_simp
        exact hK _ _ (Below.refl _ _) ho9
       ·intro AA x W hA hW hBW hdep D K hK
        simp only [DepF, nthF] at D
        obtain ⟨⟨x9, e9, ho9⟩, -⟩ := D
        have g75 : AA.tmps[75]?.getD undef = .tuple #[x9, .int .i64 t.validE] := by rw [← Array.getD_eq_getD_getElem?]; exact e9
        clear hdep hA e9
        go_simp
        exact hK _ _ (Below.refl _ _) rfl
       ·intro AA x W hA hW hBW hdep D K hK
        simp only [DepF, nthF] at D
        obtain ⟨ho9, -⟩ := D
        obtain ⟨x9, hx9⟩ : ∃ x9, AA.tmps.getD 82 undef = x9 := ⟨_, rfl⟩
        rw [hx9] at ho9
        have g82 : AA.tmps[82]?.getD undef = x9 := by rw [← Array.getD_eq_getD_getElem?]; exact hx9
        clear hdep hA hx9
        go_simp
        exact hK _ _ (Below.refl _ _) ho9
      intro x W hW hBW hall
      obtain ⟨-, -, -, -, e1, -⟩ := hall
      change (fun u W => OwnB V.heap.size W u FZ) (x 14) W at e1
      refine thenTail_nil ?_
      simp only [layS, Act.put, List.setIfInBounds_toArray, List.set_cons_zero, List.set_cons_succ]
      generalize x 77 = X77 at *
      generalize x 81 = X81 at *
      generalize x 75 = X75 at *
      generalize x 82 = X82 at *
      generalize x 14 = X14 at *
      have HW := hid hW
      have HE1 := hid e1
      clear hW e1 hBW HHH
      have hX14 := HE1.out.hold.slice
      obtain ⟨fa, fc, rfl, -, -⟩ := hX14
      have HSW := hid (HS5.out.below HW.out)
      have HBW := hid (HB5.out.trans (HW.out.mono hs5r))
      have hWs : woB.heap.size ≤ W.heap.size := HBW.out.size
      clear HS5 HB5 HW HVW HRV HVD
      go_upto_region 20 with (fail)
      go_cut [96] (fun u W2 => u = .bool false ∧ StrAt T kz z1 z2 woB.heap.size p (zs.take k2) W2 ∧ Below woB.heap.size woB W2)
      case first =>
       by_cases hj6 : j < 6
       case pos =>
        have hj7 : (j : Int) < 6 := by omega
        go_wp2_with fail
        refine (sum_sok T kz z1 z2 woB.heap.size p (zs.take k2) W HSW.out).mono ?_
        rintro e w6 ⟨u, rfl, hu, hb6⟩
        rw [HDT.out, HFZ.out] at hu
        have HU := hid hu
        obtain ⟨ua, uc, rfl, -, -⟩ := hu.hold.slice
        have HE6 := hid (HE1.out.kb (KB.of_below hb6 (Nat.zero_le _)))
        have HS6 := hid (HSW.out.below hb6)
        have HB6 := hid (HBW.out.trans (hb6.mono hWs))
        have hs6 : woB.heap.size ≤ w6.heap.size := HB6.out.size
        clear hu hb6
        go_wp2_with fail
        refine (same10_ok FZ _ _ w6 HU.out.hold HE6.out.hold).mono ?_; rintro e w7 ⟨rfl, mm, rfl⟩
        have HS7 := hid (HS6.out.below (below_drewN w6 mm))
        have HB7 := hid (HB6.out.trans ((below_drewN w6 mm).mono hs6))
        go_wp2_with fail
        go_meet
        case rel => exact ⟨rfl, HS7.out, HB7.out⟩
       have hj7 : ¬ ((j : Int) < 6) := by omega
       go_wp2_with fail
       go_meet
       case rel => exact ⟨rfl, HSW.out, HBW.out⟩
      case rest =>
       obtain ⟨rfl, hs8, hb8⟩ := hcut
       have HS8 := hid hs8
       have HB8 := hid hb8
       have hk2n : k2 ≤ zs.length := by omega
       clear hs8 hb8
       go_wp2_with fail
       exact ⟨⟨k2, j + 1, rfl, rfl, hk2n, by omega, HS8.out, HB8.out⟩, by simp [intOf] <;> omega⟩
  have hjj : j = cs.length := by omega
  subst hjj
  have hsub := hold_sub (lo := k) (hi := zs.length) ((HV.out.below (hb0 ▸ HBwoB.out)).below HB.out) (by omega) (Nat.le_refl _)
  have hsubB := hold_sub (lo := k) (hi := zs.length) (HV.out.below (hb0 ▸ HBwoB.out)) (by omega) (Nat.le_refl _)
  rw [List.take_of_length_le (by rw [List.length_drop]; omega)] at hsub hsubB
  have hvB : zs.drop k ≠ [] → ∀ g, (Value.slice (if vc = k then va else va.map (·.add k)) (zs.length - k) (vc - k)).ownBlock = some g → g < woB.heap.size := fun hne g hg => hold_own hsubB hne hg
  have HXL := hid (show (zs.take k).length + (zs.drop k).length ≤ 4194304 by rw [List.length_take, List.length_drop]; have := HN.out; omega)
  have hdl := HDL.out HE.out
  obtain ⟨ZZ, hZZ⟩ : ∃ z, t.digZ kz z1 z2 zs = z := ⟨_, rfl⟩
  rw [hZZ] at hdl HDB ⊢
  have HZZ := hid hZZ
  have hq9 : (((ZZ.length : Nat) : Int) == t.d) = true := by rw [beq_iff_eq]; exact hdl
  clear hdl hZZ hsubB
  by_cases hck : vc = k
  case pos =>
   rw [if_pos hck] at hsub hvB
   subst hck
   rw [Nat.sub_self, show zs.length - vc = 0 by omega] at hsub hvB
   have HSUB := hid hsub
   have HVB := hid hvB
   clear hsub hvB
   go_wp2_with fail
   refine (write_sok T kz z1 z2 woB.heap.size p (zs.take vc) (zs.drop vc) _ wr HST.out HSUB.out HVB.out HXL.out).mono ?_
   rintro e w5 ⟨rfl, hs5, hb5⟩
   rw [List.take_append_drop] at hs5
   have HS5 := hid hs5
   have HB5 := hid (HB.out.trans hb5)
   have hs5r : woB.heap.size ≤ w5.heap.size := HB5.out.size
   have HD5 := hid (HDB.out.below HB5.out)
   clear hs5 hb5
   go_wp2_with fail
   refine (sum_sok T kz z1 z2 woB.heap.size p zs w5 HS5.out).mono ?_
   rintro e w6 ⟨u, rfl, hu, hb6⟩
   rw [HDT.out, HZZ.out] at hu
   have HU := hid hu
   obtain ⟨ua, uc, rfl, -, -⟩ := hu.hold.slice
   have HD6 := hid (HD5.out.below hb6)
   have HB6 := hid (HB5.out.trans (hb6.mono hs5r))
   have hs6 : woB.heap.size ≤ w6.heap.size := HB6.out.size
   clear hu hb6
   go_wp2_with fail
   refine (same10_ok ZZ _ _ w6 HU.out.hold HD6.out).mono ?_; rintro e w7 ⟨rfl, mm, rfl⟩
   have HB7 := hid (HBwoB.out.trans ((HB6.out.trans ((below_drewN w6 mm).mono hs6)).mono (Nat.le_of_lt hswoB)))
   have c1 : (w6.drewN mm).cell? ⟨b0, 1, none⟩ = some (.int .i64 t.d) := cell_of_heap (((below_drewN w6 mm).block b0 (by omega)).trans ((HB6.out.block b0 hswoB).trans HRB.out)) 1
   have hb7 : b0 < (w6.drewN mm).heap.size := by have := (below_drewN w6 mm).size; omega
   generalize w6.drewN mm = W7 at *
   go_wp2_with fail
   go_ret
   exact ⟨rfl, by rw [hb0]; exact HB7.out⟩
  rw [if_neg hck] at hsub hvB
  have HSUB := hid hsub
  have HVB := hid hvB
  clear hsub hvB
  go_wp2_with fail
  refine (write_sok T kz z1 z2 woB.heap.size p (zs.take k) (zs.drop k) _ wr HST.out HSUB.out HVB.out HXL.out).mono ?_
  rintro e w5 ⟨rfl, hs5, hb5⟩
  rw [List.take_append_drop] at hs5
  have HS5 := hid hs5
  have HB5 := hid (HB.out.trans hb5)
  have hs5r : woB.heap.size ≤ w5.heap.size := HB5.out.size
  have HD5 := hid (HDB.out.below HB5.out)
  clear hs5 hb5
  go_wp2_with fail
  refine (sum_sok T kz z1 z2 woB.heap.size p zs w5 HS5.out).mono ?_
  rintro e w6 ⟨u, rfl, hu, hb6⟩
  rw [HDT.out, HZZ.out] at hu
  have HU := hid hu
  obtain ⟨ua, uc, rfl, -, -⟩ := hu.hold.slice
  have HD6 := hid (HD5.out.below hb6)
  have HB6 := hid (HB5.out.trans (hb6.mono hs5r))
  have hs6 : woB.heap.size ≤ w6.heap.size := HB6.out.size
  clear hu hb6
  go_wp2_with fail
  refine (same10_ok ZZ _ _ w6 HU.out.hold HD6.out).mono ?_; rintro e w7 ⟨rfl, mm, rfl⟩
  have HB7 := hid (HBwoB.out.trans ((HB6.out.trans ((below_drewN w6 mm).mono hs6)).mono (Nat.le_of_lt hswoB)))
  have c1 : (w6.drewN mm).cell? ⟨b0, 1, none⟩ = some (.int .i64 t.d) := cell_of_heap (((below_drewN w6 mm).block b0 (by omega)).trans ((HB6.out.block b0 hswoB).trans HRB.out)) 1
  have hb7 : b0 < (w6.drewN mm).heap.size := by have := (below_drewN w6 mm).size; omega
  generalize w6.drewN mm = W7 at *
  go_wp2_with fail
  go_ret
  exact ⟨rfl, by rw [hb0]; exact HB7.out⟩
end Go.Proofs.Ytchepcilkcdemaa
namespace Go.Proofs.Ytchepcilkcdemaa
open Go.ChangeShapes Go.WideShapes Go.ChangeAt Go.RowKit Go.Joins Go.Shelf Go.Maps
open Go.Lib (hid)
theorem treeCuts_call {H : Type} (enc : TypeId × Value → H) (W : World) (base : Nat) (args : Array Value) (ds : List (DataW H)) (p : List MemPlace)
  (hval : ∀ (j : Nat) t v, Try.f5.params[j]? = some t → args[j]? = some v → Value.okWide Try.prog W .any base t v)
  (hA : DataW.TrodAll enc Try.prog W 0 (fun _ => true) true Try.f5.params.toList args.toList ds p) (hlt : ∀ x ∈ p, x.block < W.heap.size)
  (hk : Rows.uptoSmall H ds = true) :
  Calls Try.prog 5 args W (Trues W) := by
 rw [Try.params5] at hA hval
 obtain ⟨v0, v1, v2, d0, d1, d2, p0, p1, p2, rfl, rfl, rfl, h0, h1, h2⟩ := trodAll_three hA
 have hb : Rows.uptoBulk d0 + (Rows.uptoBulk d1 + (Rows.uptoBulk d2 + 0)) ≤ 1048576 := of_decide_eq_true hk
 obtain ⟨t, kz, z1, z2, rfl, hl, ht, b1, b2, b3⟩ := openH_tree (hval 0 26 v0 rfl rfl) h0 (fun x hx => hlt x (by simp [hx]))
 obtain ⟨zs, hz, hm⟩ := openH_bytes (hval 1 24 v1 rfl rfl) h1 (fun x hx => hlt x (by simp [hx]))
 obtain ⟨cs, hc, hcm⟩ := openH_ints (hval 2 50 v2 rfl rfl) h2 (fun x hx => hlt x (by simp [hx]))
 have e1 := hold_len ht.k
 have e2 := hold_len ht.s
 have e3 := hold_len ht.p
 exact treeCuts_walk t kz z1 z2 zs cs v1 v2 W hl ht.k ht.s ht.p hz hc (by omega) (by omega) (by omega) (by omega)
theorem treeCuts_lifted (os : Os) (started : os.Started) (H : Type) (enc : TypeId × Value → H) (F0 : Stop.Interp) :
  ReturnsInHanded {} Try.checked os 5 .any ((Rows.OpenSpec.upto Rows.treeCutsSpec).pre6 enc Try.prog Try.f5 Rows.treeCutsUptoRow.domain false) (((Rows.OpenSpec.upto Rows.treeCutsSpec).at F0).post enc Try.prog Try.f5 false true false false) := by
 refine returnsInHanded_of_cond_sized (C := Try.checked) (s := Rows.OpenSpec.upto Rows.treeCutsSpec) (k := Rows.uptoSmall) rfl own started (by kernel_rfl) Try.func5
  (OpenSpec.witness (enc := enc) (C := Try.checked) (s := Rows.OpenSpec.upto Rows.treeCutsSpec) (k := Rows.uptoSmall) rfl false ⟨#[], #[.agg #[.int .i64 0, .int .i64 0, .int .i64 0, .int .i64 0, .int .u32 0, .int .i64 0, .slice none 0 0, .slice none 0 0, .slice none 0 0], .slice none 0 0, .slice none 0 0], []⟩ 40 (by kernel_rfl) (by kernel_rfl) (by kernel_rfl)
   (x := ([.agg [.lit (.int .i64 0), .lit (.int .i64 0), .lit (.int .i64 0), .lit (.int .i64 0), .lit (.int .u32 0), .lit (.int .i64 0), .nil, .nil, .nil], .nil, .nil], [], [])) (by kernel_rfl) (by kernel_rfl) (by kernel_rfl)) ?_
 intro W base args ds gs before hval0 hW hcnd hk hz _
 have hW' := hW
 obtain ⟨p, q, hA0, hV, rfl, hfz, hnd⟩ := hW
 have hA : DataW.TrodAll enc Try.prog W 0 (fun _ => true) true Try.f5.params.toList args.toList ds p := hA0
 obtain ⟨rfl, rfl⟩ := trodVars_none hV
 have hk' : Rows.uptoSmall H ds = true := by rw [← List.append_nil ds]; exact hk
 refine (treeCuts_call enc W base args ds p hval0 hA (fun x hx => hW'.lt x (by simpa using hx)) hk').mono fun e W' h => ⟨_, h.1, ?_⟩
 refine post_of_trues (s := (Rows.OpenSpec.upto Rows.treeCutsSpec).at F0) laidOut _ rfl Try.underlying4 (by decide +kernel) rfl hW' ?_ h.2
 have hA' := hA
 rw [Try.params5] at hA'
 obtain ⟨v0, v1, v2, d0, d1, d2, p0, p1, p2, rfl, rfl, _⟩ := trodAll_three hA'
 rfl
theorem treeCuts_holds : Rows.TreeCutsUptoSaid :=
 OpenClaim.holds_of_cond 5 Try.f5 rfl rfl rfl rfl rfl rfl rfl ⟨rfl, rfl, rfl, rfl, rfl⟩ rfl rfl rfl rfl rfl (by kernel_rfl) Try.func5 (by kernel_rfl)
  (of_decide_eq_true (by kernel_rfl)) (by unfold Func.isWrapper; first | (rw [if_pos (by decide +kernel)]; kernel_rfl) | (rw [if_neg (by decide +kernel)]; exact ⟨rfl, rfl⟩))
  (fun os started H enc _ F0 => by rw [OpenClaim.pre_of_none' rfl]; exact treeCuts_lifted os started H enc F0)
#print axioms treeCuts_holds
end Go.Proofs.Ytchepcilkcdemaa
