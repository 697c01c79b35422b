/- One more settled leaf goes up: settle. No condition. -/
import Derived.Test.YtchepcilkcdemaaS40
import Derived.WalkMore
import Derived.Test.YtchepcilkcdemaaS41
import Derived.Test.YtchepcilkcdemaaS38
set_option linter.all false
set_option maxRecDepth 100000
set_option maxHeartbeats 8000000
namespace Go.Proofs.Ytchepcilkcdemaa
open Go.ChangeShapes Go.WideShapes Go.ChangeAt Go.RowKit Go.Joins Go.Shelf Go.Maps
open Go.Lib (hid)
attribute [local go_sem] Oper.semAt_some
/-- A stream's rows in memory. -/
def RowsP (t : TreeV) (hv : Value) (tk : Int) (p B : Nat) (LL : List (List (List Int))) (DN : List Nat) (w : World) : Prop :=
 ∃ ov dv vs, w.heap[p]? = some (.cells (strC t hv tk ov dv) 77 (0, 0)) ∧ OpenV B w ov vs LL ∧ w.ownsRow B 36 1 dv DN.length (DN.map encU)
/-- What 'settle' answers. -/
def SetP (t : TreeV) (kz z1 z2 : List Int) (A : List (List Int)) (hv : Value) (tk : Int) (p B : Nat) (w : World) (e : Ending) (w' : World) : Prop :=
 e = .returned (.tuple #[]) ∧ ∃ m, RowsP t hv tk p B ((List.range m).map (t.openL kz z1 z2 A)) ((List.range m).map (t.cntS A.length)) w' ∧ (∀ r, r < m → 0 < t.cntS A.length r) ∧ t.cntS A.length m = 0 ∧ KB B w w'
theorem OpenV.form {B : Nat} {w : World} {v : Value} {vs : List Value} {LL : List (List (List Int))} (h : OpenV B w v vs LL) : ∃ a c, v = .slice a LL.length c ∧ (LL.length : Int) ≤ 9223372036854775807 := by
 rcases h.1.2 with ⟨rfl, e⟩ | ⟨g, cap, cur, rfl, -, -, h3, h4, -⟩
 ·exact ⟨none, 0, by rw [e], by omega⟩
 ·exact ⟨_, _, rfl, by unfold maxLen at h4; omega⟩
def EqL (a b : List Int) : Prop := a = b
theorem EqL.out {a b : List Int} (h : EqL a b) : a = b := h
def EqM (a b : Nat) : Prop := a = b
theorem EqM.out {a b : Nat} (h : EqM a b) : a = b := h
def EqB (a b : Bool) : Prop := a = b
theorem EqB.out {a b : Bool} (h : EqB a b) : a = b := h
theorem getD_range {α : Type} (f : Nat → α) (d : α) {m r : Nat} (h : r < m) : ((List.range m).map f).getD r d = f r := by simp [List.getD_eq_getElem?_getD, h]
theorem TreeV.cntS_le (t : TreeV) (s : Nat) : ∀ r, t.cntS s r ≤ s
 | 0 => Nat.le_refl _
 | r + 1 => by
  rw [TreeV.cntS_next]
  split
  ·omega
  ·exact Nat.le_trans (Nat.div_le_self _ _) (TreeV.cntS_le t s r)
theorem doneForm {w : World} {B T n : Nat} {v : Value} {xs : List Value} (h : w.ownsRow B T 1 v n xs) : ∃ a c, v = .slice a n c := by
 rcases h.2 with ⟨rfl, e⟩ | ⟨g, cap, cur, rfl, -⟩
 ·exact ⟨none, 0, by rw [e]⟩
 ·exact ⟨_, _, rfl⟩
theorem strC_tree (t : TreeV) (hv ov dv : Value) (tk : Int) {j : Nat} (hj : j < (#[.int .i64 t.k, .int .i64 t.d, .int .i64 t.f, .int .i64 t.p, .int .u32 t.l, .int .i64 t.i, .slice t.ka t.kl t.kc, .slice t.sa t.sl t.sc, .slice t.pa t.pl t.pc] : Array Value).size) : (strC t hv tk ov dv)[0 + j]? = (#[.int .i64 t.k, .int .i64 t.d, .int .i64 t.f, .int .i64 t.p, .int .u32 t.l, .int .i64 t.i, .slice t.ka t.kl t.kc, .slice t.sa t.sl t.sc, .slice t.pa t.pl t.pc] : Array Value)[j]? := by
 simp only [List.size_toArray, List.length_cons, List.length_nil] at hj
 rw [Nat.zero_add]
 rcases j with _ | _ | _ | _ | _ | _ | _ | _ | _ | j
 all_goals first | rfl | omega
theorem info_stack : (Try.prog.info? 82).map (fun i => (i.zero, i.size, i.bytes)) = some (some (.agg #[.slice none 0 0]), 1, 24) := by kernel_rfl
theorem flat_le {L : List (List Int)} {k : Nat} (h : ∀ x ∈ L, x.length ≤ k) : L.flatten.length ≤ L.length * k := by
 induction L with
 | nil => simp
 | cons a L ih =>
  rw [List.flatten_cons, List.length_append, List.length_cons, Nat.add_mul, Nat.one_mul]
  have := h a (by simp)
  have := ih (fun x hx => h x (by simp [hx]))
  omega
theorem TreeV.node_le {t : TreeV} (h : t.validE = 0) (kz z1 z2 : List Int) (row i : Nat) (la rt : Bool) (d : List Int) : (t.node kz z1 z2 row i la rt d).length ≤ 64 := by
 have h1 := TreeV.node_lenE h kz z1 z2 row i la rt d
 have h2 := TreeV.outN_ok h rt
 have h3 : mB t.big ≤ 64 := by cases t.big <;> decide
 omega
theorem TreeV.setL_le {t : TreeV} (h : t.validE = 0) (kz z1 z2 : List Int) {A : List (List Int)} (hA : ∀ x ∈ A, x.length ≤ 64) (r : Nat) : ∀ x ∈ t.setL kz z1 z2 A r, x.length ≤ 64 := by
 cases r with
 | zero => exact hA
 | succ r =>
  intro x hx
  unfold TreeV.setL at hx
  obtain ⟨i, -, rfl⟩ := List.mem_map.1 hx
  exact TreeV.node_le h _ _ _ _ _ _ _ _
theorem TreeV.openL_le {t : TreeV} (h : t.validE = 0) (kz z1 z2 : List Int) {A : List (List Int)} (hA : ∀ x ∈ A, x.length ≤ 64) (r : Nat) : ∀ x ∈ t.openL kz z1 z2 A r, x.length ≤ 64 := fun x hx => TreeV.setL_le h kz z1 z2 hA r x (List.mem_of_mem_drop hx)
theorem TreeV.outS_le {t : TreeV} (h : t.validE = 0) (kz z1 z2 : List Int) (A : List (List Int)) {a : List Int} (ha : a.length ≤ 64) (r : Nat) : (t.outS kz z1 z2 A a r).length ≤ 64 := by
 cases r with
 | zero => exact ha
 | succ r => exact TreeV.node_le h _ _ _ _ _ _ _ _
theorem settle_sok (t : TreeV) (kz z1 z2 : List Int) (A : List (List Int)) (a : List Int) (hv u : Value) (tk : Int) (p B m : Nat) (w : World) (hvd : t.validE = 0) (hl : 0 ≤ t.l ∧ t.l ≤ 4294967295) (h1 : OwnB B w (.slice t.ka t.kl t.kc) kz) (h2 : OwnB B w (.slice t.sa t.sl t.sc) z1) (h3 : OwnB B w (.slice t.pa t.pl t.pc) z2)
 (hr : RowsP t hv tk p B ((List.range m).map (t.openL kz z1 z2 A)) ((List.range m).map (t.cntS A.length)) w) (hm1 : ∀ r, r < m → 0 < t.cntS A.length r) (hm2 : t.cntS A.length m = 0) (hu : OwnB B w u a) (hB : B ≤ p) (hA : A.length ≤ 4194304) (hA2 : ∀ x ∈ A, x.length ≤ 64) (ha : a.length ≤ 64) (hmb : m ≤ 255) :
  Calls Try.prog 40 #[.pointer (some ⟨p, 0, none⟩), u] w fun e w' => SetP t kz z1 z2 (A ++ [a]) hv tk p B w e w' := by
 have hstart : RowsP t hv tk p B ((List.range m).map (t.mixL kz z1 z2 A a 0)) ((List.range m).map (t.mixC A.length 0)) w := hr
 have HA2 := hid hA2
 have HAL := hid ha
 have HST := hid hstart
 clear hA2 ha
 have HU := hid hu
 have HM1 := hid hm1
 have HM2 := hid hm2
 have H1 := hid h1
 have H2 := hid h2
 have H3 := hid h3
 have HL := hid hl
 have HVD := hid hvd
 have hpl : p < w.heap.size := by obtain ⟨ov, dv, vs, h, -, -⟩ := hr; exact (Array.getElem?_eq_some_iff.1 h).1
 clear hstart hr hu hm1 hm2 h1 h2 h3 hl hvd
 go_enter Try.func40, Try.ntmps40
 go_step3
 go_wp2_with fail
 go_step3
 go_wp2_with fail
 go_loopw [1, 4] (fun o i wr => ∃ r : Nat, i = .int .i64 (r : Nat) ∧ r ≤ m ∧ Hid (t.carry A.length r = true) ∧ OwnB B wr o (t.outS kz z1 z2 A a r) ∧ RowsP t hv tk p B ((List.range m).map (t.mixL kz z1 z2 A a r)) ((List.range m).map (t.mixC A.length r)) wr ∧ KB B w wr) (fun _ i _ => m + 1 - (intOf i).toNat)
 case atStart => exact ⟨0, rfl, Nat.zero_le _, hid rfl, HU.out, HST.out, KB.of_below (Below.refl _ _) (by omega)⟩
 case round =>
  obtain ⟨r, rfl, hr, HCA, ho, hrp, hk⟩ := hrel
  obtain ⟨ov, dv, vs, hp, hop, hdn⟩ := hrp
  have HO := hid ho
  have HK := hid hk
  have HP := hid hp
  have HOP := hid hop
  have HDN := hid hdn
  obtain ⟨oa, oc, rfl, hoi⟩ := hop.form
  obtain ⟨da, dc, rfl⟩ := doneForm hdn
  have hlr : ((List.range m).map (t.mixL kz z1 z2 A a r)).length = m := by simp
  have hcr : ((List.range m).map (t.mixC A.length r)).length = m := by simp
  rw [hlr] at HP HOP hoi
  rw [hcr] at HP HDN
  obtain ⟨xa, xc, rfl, -, -⟩ := ho.hold.slice
  have c11 : wr.cell? ⟨p, 11, none⟩ = some (.slice oa m oc) := cell_of_heap HP.out 11
  have hplr : p < wr.heap.size := by have := hk.size; omega
  have hBr : B ≤ wr.heap.size := by omega
  clear ho hk hp hop hdn hlr hcr
  by_cases hrm : r = m
  case' pos =>
   have hq : ((r : Int) == (m : Int)) = true := by rw [beq_iff_eq]; omega
   have HRM : EqM r m := hrm
   clear hrm
   have HOO := hid (show wr.ownsRow B 82 1 (.slice oa m oc) m vs by have h8 := HOP.out.1; rwa [List.length_map, List.length_range] at h8)
   obtain ⟨is, his, hzis, hsis, hbis⟩ := info_parts info_stack
   obtain ⟨iu, hiu, hziu, hsiu, hbiu⟩ := info_parts info_u64
   go_upto_region 2 with (fail)
   go_upto_region 3 with (at_builtin; refine wpList_push rfl _ _ _ rfl B 82 (by decide) is (.agg #[.slice none 0 0]) 1 24 Try.underlying75 his hzis hsis hbis rfl (by decide) (.slice oa m oc) m (vs) [.slice none 0 0] _ rfl HOO.out rfl rfl (by simp [Value.oneCell']) (by unfold maxLen; omega) (by omega) hBr ?_; intro v' w' hown' hkb' hsp'; obtain ⟨va, vn, vc, rfl⟩ := own_slice hown'; obtain rfl := own_len hown'; have hp' := (hsp'.block p hplr (fun e => own_off HOO.out HP.out (by decide) p e rfl)).trans HP.out; have c0' : w'.cell? ⟨p, 11, none⟩ = some (.slice oa m oc) := cell_of_heap hp' 11; have f0' := frozen_of_row w' p 11 _ _ hp'; have s0' : p < w'.heap.size := (Array.getElem?_eq_some_iff.1 hp').1)
   have hop' := OpenV.snoc HOP.out (by simpa using hown') hkb' hsp'
   have hdn' := own_keep HDN.out (own_spare HOO.out HDN.out (by decide) hsp')
   have hk' := HK.out.trans hkb'
   have ho' := HO.out.kb hkb'
   refine letterW ?_
   intro Y hY
   have hYo : ∀ k, k ≠ p → Y.heap[k]? = w'.heap[k]? := fun k hk => by rw [hY]; exact heap_setCell_other _ _ _ _ hk
   have HPY := hid (show Y.heap[p]? = some (.cells (strC t hv tk (.slice va (m + 1) vc) (.slice da m dc)) 77 (0, 0)) by rw [hY]; exact heap_setCell_same _ p 11 _ _ _ hp')
   have HOPY := hid (hop'.off hp' (by decide) (by decide) (by decide) hYo)
   have hdnY := own_keep hdn' (fun k hk => hYo k (own_off hdn' hp' (by decide) k hk))
   have HDNY := hid hdnY
   have hkY : KB B w' Y := by rw [hY]; exact KB.of_but ((But.refl p _).set 11 _) (by omega) hB hp' (by decide)
   have HKY := hid (hk'.trans hkY)
   have HOY := hid (ho'.kb hkY)
   have hpY : p < Y.heap.size := (Array.getElem?_eq_some_iff.1 HPY.out).1
   have hsY : B ≤ Y.heap.size := by omega
   have c12 : Y.cell? ⟨p, 12, none⟩ = some (.slice da m dc) := cell_of_heap HPY.out 12
   clear hop' hdn' hk' ho' hY hYo hdnY hkY hown' hkb' hsp' hp' c0' f0' s0' HP HOP HDN HK HO HOO c11 hplr hBr hq his hzis hsis hbis hoi
   go_upto_region 4 with (at_builtin; refine wpList_push rfl _ _ _ rfl B 36 (by decide) iu (.int .u64 0) 1 8 Try.underlying43 hiu hziu hsiu hbiu rfl (by decide) (.slice da m dc) m (((List.range m).map (t.mixC A.length r)).map encU) [.int .u64 0] _ rfl HDNY.out rfl rfl (by simp [Value.oneCell']) (by unfold maxLen; omega) (by omega) hsY ?_; intro v' w' hown' hkb' hsp'; obtain ⟨xva, vn, xvc, rfl⟩ := own_slice hown'; obtain rfl := own_len hown'; have hp' := (hsp'.block p hpY (fun e => own_off HDNY.out HPY.out (by decide) p e rfl)).trans HPY.out; have c0' : w'.cell? ⟨p, 12, none⟩ = some (.slice da m dc) := cell_of_heap hp' 12; have f0' := frozen_of_row w' p 12 _ _ hp'; have s0' : p < w'.heap.size := (Array.getElem?_eq_some_iff.1 hp').1)
   have hop' := own_spare HDNY.out HOPY.out.1 (by decide) hsp'
   have hop2 := OpenV.tend HOPY.out hkb'.bytes hop' (fun i g hi hg => by
    obtain ⟨ys, hys⟩ := (HOPY.out.2.1 i hi).row
    exact own_spare HDNY.out hys (by decide) hsp' g hg)
   have hk' := HKY.out.trans hkb'
   have ho' := HOY.out.kb hkb'
   refine letterW ?_
   intro Z hZ
   have hZo : ∀ k, k ≠ p → Z.heap[k]? = w'.heap[k]? := fun k hk => by rw [hZ]; exact heap_setCell_other _ _ _ _ hk
   have hpZ : Z.heap[p]? = some (.cells (strC t hv tk (.slice va (m + 1) vc) (.slice xva (m + 1) xvc)) 77 (0, 0)) := by rw [hZ]; exact heap_setCell_same _ p 12 _ _ _ hp'
   have hopZ := hop2.off hp' (by decide) (by decide) (by decide) hZo
   have hdnZ := own_keep hown' (fun k hk => hZo k (own_off hown' hp' (by decide) k hk))
   have hkZ : KB B w' Z := by rw [hZ]; exact KB.of_but ((But.refl p _).set 12 _) (by omega) hB hp' (by decide)
   have e1 : (List.range m).map (t.mixL kz z1 z2 A a r) ++ [[]] = (List.range (m + 1)).map (t.mixL kz z1 z2 A a r) := by
    rw [map_range_snoc, ← HRM.out, TreeV.mixL_at, TreeV.openL_zero (by rw [HRM.out]; exact HM2.out)]
   have e2 : ((List.range m).map (t.mixC A.length r)).map encU ++ [.int .u64 0] = ((List.range (m + 1)).map (t.mixC A.length r)).map encU := by
    rw [map_range_snoc, List.map_append, ← HRM.out, TreeV.mixC_at, show t.cntS A.length r = 0 by rw [HRM.out]; exact HM2.out]; rfl
   rw [e1] at hopZ
   rw [e2] at hdnZ
   have KEY : ∃ (X : World) (m3 : Nat), X = Z ∧ r < m3 ∧ m3 ≤ 256 ∧ (m3 = m ∨ m3 = m + 1 ∧ r = m) ∧ RowsP t hv tk p B ((List.range m3).map (t.mixL kz z1 z2 A a r)) ((List.range m3).map (t.mixC A.length r)) X ∧ KB B w X ∧ OwnB B X (.slice xa (t.outS kz z1 z2 A a r).length xc) (t.outS kz z1 z2 A a r) := ⟨Z, m + 1, rfl, by have := HRM.out; omega, by omega, .inr ⟨rfl, HRM.out⟩, ⟨_, _, _, hpZ, hopZ, by simpa using hdnZ⟩, hk'.trans hkZ, ho'.kb hkZ⟩
   clear hop' hop2 hk' ho' hZ hZo hpZ hopZ hdnZ hkZ e1 e2 hown' hkb' hsp' hp' c0' f0' s0' HPY HOPY HDNY HKY HOY hpY hsY c12 hiu hziu hsiu hbiu HRM
   obtain ⟨wr, m3, e, hm3, hm4, hm5, hrp, hk, ho⟩ := KEY
   subst e
  case' neg =>
   have hq : ((r : Int) == (m : Int)) = false := by rw [beq_eq_false_iff_ne]; omega
   go_upto_region 4 with (fail)
   have KEY : ∃ (X : World) (m3 : Nat), X = wr ∧ r < m3 ∧ m3 ≤ 256 ∧ (m3 = m ∨ m3 = m + 1 ∧ r = m) ∧ RowsP t hv tk p B ((List.range m3).map (t.mixL kz z1 z2 A a r)) ((List.range m3).map (t.mixC A.length r)) X ∧ KB B w X ∧ OwnB B X (.slice xa (t.outS kz z1 z2 A a r).length xc) (t.outS kz z1 z2 A a r) := ⟨wr, m, rfl, by omega, by omega, .inl rfl, ⟨_, _, vs, HP.out, HOP.out, by simpa using HDN.out⟩, HK.out, HO.out⟩
   clear hq hrm HP HOP HDN HK HO c11 hplr hBr hoi
   obtain ⟨wr, m3, e, hm3, hm4, hm5, hrp, hk, ho⟩ := KEY
   subst e
  all_goals
   obtain ⟨ov, dv, vs, hp, hop, hdn⟩ := hrp
   have hlr : ((List.range m3).map (t.mixL kz z1 z2 A a r)).length = m3 := by simp
   have hcr : ((List.range m3).map (t.mixC A.length r)).length = m3 := by simp
   have hLr : ((List.range m3).map (t.mixL kz z1 z2 A a r)).getD r [] = t.openL kz z1 z2 A r := by rw [getD_range _ _ hm3, TreeV.mixL_at]
   have hDr : nth ((List.range m3).map (t.mixC A.length r)) r = t.cntS A.length r := by unfold nth; rw [getD_range _ _ hm3, TreeV.mixC_at]
   obtain ⟨g, cap, cur, e, hBg, hg, hcur⟩ := hop.at (i := r) (by rw [hlr]; exact hm3)
   have hx := hop.2.1 r (by rw [hlr]; exact hm3)
   rw [hLr] at hx
   obtain ⟨lv, hlv⟩ : ∃ lv, vs.getD r undef = lv := ⟨_, rfl⟩
   rw [hlv] at hx hcur
   obtain ⟨ys, hys⟩ := hx.row
   have hpg : p ≠ g := fun e2 => by subst e; exact own_off hop.1 hp (by decide) g rfl e2.symm
   have hpv : lv.ownBlock ≠ some p := fun e2 => own_off hys hp (by decide) p e2 rfl
   have hgv : lv.ownBlock ≠ some g := fun e2 => own_off hys hg (by decide) g e2 rfl
   subst e
   rw [hlr] at hp hop
   rw [hcr] at hdn
   obtain ⟨gd, cd, rfl, hl3, hBd, hgd, hcd⟩ := ownsRow_cells hdn (by omega)
   have hcd0 := hcd r hm3
   rw [hDr] at hcd0
   obtain ⟨dcur, hdg⟩ := own_block_at hdn gd rfl
   have hgdg : gd ≠ g := fun e2 => own_off hdn hg (by decide) gd rfl e2
   have hgdv : lv.ownBlock ≠ some gd := fun e2 => own_off hys hdg (by decide) gd e2 rfl
   have hpd : p ≠ gd := fun e2 => own_off hdn hp (by decide) gd rfl e2.symm
   have c11 : wr.cell? ⟨p, 11, none⟩ = some (.slice (some ⟨g, 0, none⟩) m3 cap) := cell_of_heap hp 11
   have hplr : p < wr.heap.size := by have := hk.size; omega
   have hgl : g < wr.heap.size := (Array.getElem?_eq_some_iff.1 hg).1
   have hcl := t.cntS_le A.length r
   have hol : (t.openL kz z1 z2 A r).length ≤ 8388608 := by rw [TreeV.open_len]; omega
   have hBr : B ≤ wr.heap.size := by omega
   have hm3i : (r : Int) < (m3 : Int) := by omega
   have hm3j : (m3 : Int) ≤ 256 := by omega
   have HPUT := hid (put_sok (t.openL kz z1 z2 A r) (t.outS kz z1 z2 A a r) lv _ g r B cur wr hg hcur hx ho hol hBr)
   have HP := hid hp
   have HOP := hid hop
   have HDN := hid hdn
   have HG := hid hg
   have HDG := hid hdg
   have HLV := hid hlv
   have HK := hid hk
   have HCD := hid hcd0
   clear hp hop hdn hg hdg hlv hk hcd hcd0 hx ho hcur hlr hcr hLr hDr hl3 hys hol
   go_wp2_with fail
   refine HPUT.out.mono ?_; rintro e w5 ⟨rfl, lv', k1, k2, k3, k4, k5⟩
   have hp5 := (k4.block p hplr ⟨hpg, hpv⟩).trans HP.out
   have hgdl : gd < wr.heap.size := (Array.getElem?_eq_some_iff.1 HDG.out).1
   have hdn5 := own_keep HDN.out (fun b hb => by
    obtain rfl : gd = b := by simpa [Value.ownBlock] using hb
    exact k4.block gd hgdl ⟨hgdg, hgdv⟩)
   have hdg5 := (k4.block gd hgdl ⟨hgdg, hgdv⟩).trans HDG.out
   have hop5 := OpenV.upd HOP.out (by simpa using hm3) HG.out k1 k2 (by rw [HLV.out]; exact k3) (by rw [HLV.out]; exact k4) k5
   have hk5 : KB B wr w5 := ⟨k4.os, k4.tape, k4.output, k4.size, fun b hb => k4.block b (by omega) ⟨by omega, fun e2 => by
    have h8 := HOP.out.2.1 r (by simpa using hm3)
    rw [HLV.out] at h8
    obtain ⟨zs8, hz8⟩ := h8.row
    have := own_block_ge hz8 b e2
    omega⟩, k5⟩
   have hcd5 : w5.cell? ⟨gd, r, none⟩ = some (.int .u64 (t.cntS A.length r : Nat)) := (cell_of_heap hdg5 r).trans ((cell_of_heap HDG.out r).symm.trans HCD.out)
   have hfd5 := frozen_of_row w5 gd r _ _ hdg5
   have hgdl5 : gd < w5.heap.size := (Array.getElem?_eq_some_iff.1 hdg5).1
   have c12 : w5.cell? ⟨p, 12, none⟩ = some (.slice (some ⟨gd, 0, none⟩) m3 cd) := cell_of_heap hp5 12
   have hpl5 : p < w5.heap.size := (Array.getElem?_eq_some_iff.1 hp5).1
   have hwc : IntKind.u64.wrap ((t.cntS A.length r : Int) + 1) = ((t.cntS A.length r + 1 : Nat) : Int) := u64_wrap_id _ (by omega) (by omega)
   have hs5 := k4.size
   have HP5 := hid hp5
   have HDN5 := hid hdn5
   have HDG5 := hid hdg5
   have HOP5 := hid hop5
   have HK5 := hid (HK.out.trans hk5)
   clear hp5 hdn5 hdg5 hop5 hk5 k1 k2 k3 k4 k5 c11 HPUT HP HDN HDG HOP HG HK HLV hpv hgv hgdv hplr hgl HCD hgdl
   obtain ⟨cn, hcn⟩ : ∃ cn, t.cntS A.length r = cn := ⟨_, rfl⟩
   rw [hcn] at hcd5 hwc
   have HCN : EqM cn (t.cntS A.length r) := hcn.symm
   have hcnb : cn ≤ 4194304 := by omega
   clear hcn hcl
   go_upto_region 6 with (fail)
   refine letterW ?_
   intro Y hY
   have hYo : ∀ k, k ≠ gd → Y.heap[k]? = w5.heap[k]? := fun k hk => by rw [hY]; exact heap_setCell_other _ _ _ _ hk
   have HPY := hid ((hYo p hpd).trans HP5.out)
   have HOPY := hid (HOP5.out.off HDG5.out (by decide) (by decide) (by decide) hYo)
   have hdnY : Y.ownsRow B 36 1 (.slice (some ⟨gd, 0, none⟩) m3 cd) m3 (((List.range m3).map (t.mixC A.length (r + 1))).map encU) := by
    have h8 := own_set (i := r) (y := .int .u64 ((cn : Int) + 1)) HDN5.out
    rw [← hY] at h8
    rw [← TreeV.mixC_put HCA.out, List.map_set]
    rw [show encU (t.cntS A.length r + 1) = .int .u64 ((cn : Int) + 1) by rw [← HCN.out]; rfl]
    exact h8
   have HDNY := hid hdnY
   have hsY : Y.heap.size = w5.heap.size := by rw [hY]; simp [World.setCell]
   have HKY := hid (HK5.out.trans (show KB B w5 Y by rw [hY]; exact KB.of_but ((But.refl gd _).set r _) (by omega) hBd HDG5.out (by decide)))
   have hfull := full_sok t HVD.out hv _ _ tk p B _ _ r Y HPY.out HOPY.out (by rw [List.length_set]; simpa using hm3) (by omega)
   have hqq : decide (t.fn ≠ 0 ∧ r + 2 < t.pn ∧ t.fn ≤ ((((List.range m3).map (t.mixL kz z1 z2 A a r)).set r (t.openL kz z1 z2 A r ++ [t.outS kz z1 z2 A a r])).getD r []).length) = t.carry A.length (r + 1) := by
    rw [getD_set _ _ _ _ _ (by simpa using hm3), if_pos rfl, List.length_append, List.length_singleton]
    have h8 := TreeV.carry_next kz z1 z2 A HCA.out
    by_cases h9 : t.carry A.length (r + 1) = true
    ·rw [h9]; exact decide_eq_true (h8.1 h9)
    ·rw [show t.carry A.length (r + 1) = false by simpa using h9]
     exact decide_eq_false (fun e => h9 (h8.2 e))
   rw [hqq] at hfull
   have HFULL := hid hfull
   clear hfull hqq hY hYo hdnY HP5 HDN5 HDG5 HOP5 HK5 hcd5 hfd5 hgdl5 c12 hpl5 hwc
   obtain ⟨q, hq⟩ : ∃ q, t.carry A.length (r + 1) = q := ⟨_, rfl⟩
   rw [hq] at HFULL
   have HQ : EqB (t.carry A.length (r + 1)) q := hq
   clear hq
   go_wp2_with fail
   refine HFULL.out.mono ?_; rintro e Y2 ⟨rfl, m6, hm6⟩
   have hbY : Below Y.heap.size Y Y2 := by rw [hm6]; exact below_drewN _ _
   have HPZ := hid (rowStay HPY.out hbY)
   have HOPZ := hid (OpenV.below HOPY.out hbY)
   have HDNZ := hid (ownsRow_same' HDNY.out (fun b _ hb => hbY.block b hb))
   have HKZ := hid (HKY.out.trans (KB.of_below hbY (by omega)))
   clear hm6 hbY HPY HOPY HDNY HKY HFULL
   cases q
   case' false =>
    go_wp2_with fail
    rw [Exit.noGoto_normal]
    have hla : (A ++ [a]).length = A.length + 1 := by simp
    have hop := HOPZ.out
    rw [TreeV.mixL_put kz z1 z2 A a HCA.out HQ.out] at hop
    have hdn := HDNZ.out
    rw [TreeV.mixC_end HQ.out, ← hla] at hdn
    refine bodyPost_end (results_none rfl _ _ _) rfl ⟨rfl, m3, ⟨_, _, _, HPZ.out, hop, by simpa using hdn⟩, fun i hi => ?_, ?_, HKZ.out⟩
    ·rw [hla, TreeV.cntS_succ]
     rcases hm5 with h8 | ⟨h8, h9⟩
     ·have := HM1.out i (by omega); omega
     ·by_cases h7 : i < m
      ·have := HM1.out i h7; omega
      ·obtain rfl : i = r := by omega
       rw [if_pos HCA.out]; omega
    ·rw [hla, TreeV.cntS_succ, if_neg (by rw [TreeV.carry_not HQ.out m3 (by omega)]; decide), Nat.add_zero]
     rcases hm5 with h8 | ⟨h8, h9⟩
     ·rw [h8]; exact HM2.out
     ·rw [h8]; exact TreeV.cntS_zero HM2.out
   case' true =>
    have hln := TreeV.carry_len kz z1 z2 A HCA.out HQ.out
    have hfn := (TreeV.carry_next kz z1 z2 A HCA.out).1 HQ.out
    obtain ⟨g2, cap2, cur2, e2, hBg2, hg2, hcur2⟩ := HOPZ.out.at (i := r) (by rw [List.length_set]; simpa using hm3)
    have hx2 := HOPZ.out.2.1 r (by rw [List.length_set]; simpa using hm3)
    obtain ⟨x2, hxe⟩ : ∃ x, (vs.set r lv').getD r undef = x := ⟨_, rfl⟩
    rw [hxe] at hx2 hcur2
    rw [getD_set _ _ _ _ _ (by simpa using hm3), if_pos rfl] at hx2
    simp only [Value.slice.injEq, Option.some.injEq, Addr.mk.injEq, and_true, true_and] at e2
    obtain ⟨rfl, -⟩ := e2
    have hfl := flat_le (L := t.openL kz z1 z2 A r ++ [t.outS kz z1 z2 A a r]) (k := 64) (fun x hx => by
     rcases List.mem_append.1 hx with h8 | h8
     ·exact TreeV.openL_le HVD.out kz z1 z2 HA2.out r x h8
     ·rw [List.mem_singleton.1 h8]; exact TreeV.outS_le HVD.out kz z1 z2 A HAL.out r)
    obtain ⟨LT, hLT⟩ : ∃ L, t.openL kz z1 z2 A r ++ [t.outS kz z1 z2 A a r] = L := ⟨_, rfl⟩
    rw [hLT] at hx2 hfl
    have hLTl : LT.length = t.fn := by rw [← hLT, List.length_append, List.length_singleton]; exact hln
    have htf : t.f = ((LT.length : Nat) : Int) := by rw [hLTl]; unfold TreeV.fn; have := hfn.1; unfold TreeV.fn at this; omega
    have hr2b : r + 2 < 256 := by
     have h8 := (TreeV.valid_facts HVD.out).2.2.2.2.2.2
     have h9 := hfn.2.1
     unfold TreeV.pn at h9
     omega
    have hrm2 : Hid (r + 1 ≤ m ∧ m3 = m) := hid <| by
     rcases hm5 with h8 | ⟨h8, h9⟩
     ·exact ⟨by omega, h8⟩
     ·exfalso
      have h7 := hfn.2.2
      rw [TreeV.open_len, h9, HM2.out] at h7
      have h6 := (TreeV.valid_facts HVD.out).2.2.2.2.2.1
      have h5 := hfn.1
      unfold TreeV.fn at h5 h7
      omega
    have hpY2 : p < Y2.heap.size := (Array.getElem?_eq_some_iff.1 HPZ.out).1
    have hLTb : 1 ≤ LT.length ∧ LT.length ≤ 255 := by
     have h8 := (TreeV.valid_facts HVD.out).2.2.2.2.2.1
     rw [hLTl]; unfold TreeV.fn; have := hfn.1; unfold TreeV.fn at this; omega
    have HX2 := hid hx2
    have HG2 := hid hg2
    have HC2 := hid hcur2
    have HXE := hid hxe
    have HLT : EqL (t.openL kz z1 z2 A r ++ [t.outS kz z1 z2 A a r]).flatten LT.flatten := by rw [hLT]; rfl
    have HLTB := hid hLTb
    have HFL := hid (show LT.flatten.length ≤ 16320 by omega)
    clear hfl
    clear hx2 hg2 hcur2 hxe hLT hln hfn hLTl
    go_wp2_with fail
    refine region_tail 11 (by kernel_rfl) (by kernel_rfl) ?_
    intro W hcW hfW hbW
    have hpW := rowStay HPZ.out hbW
    have c11 : W.cell? ⟨p, 11, none⟩ = some (.slice (some ⟨g, 0, none⟩) m3 cap) := cell_of_heap hpW 11
    have c2 : W.cell? ⟨p, 2, none⟩ = some (.int .i64 ((LT.length : Nat) : Int)) := (cell_of_heap hpW 2).trans (by rw [← htf]; rfl)
    have hplW : p < W.heap.size := (Array.getElem?_eq_some_iff.1 hpW).1
    have hgW := rowStay HG2.out hbW
    have hglW : g < W.heap.size := (Array.getElem?_eq_some_iff.1 hgW).1
    have HBW := hid hbW
    have HGW := hid hgW
    have hsz := hid hbW.size
    have HTAKE := hid (take_sok LT x2 g r B cur2 W hgW HC2.out (HX2.out.below hbW) hLTb.1 (by omega) (by omega))
    clear hcW hfW hbW hgW htf
    repeat still_step
    refine wpStill_nil ?_
    go_wp2_with fail
    refine HTAKE.out.mono ?_; rintro e W2 ⟨x3, lv3, rfl, j1, j2, j3, j4, j5⟩
    have HJ := hid (joined_ok LT x3 W2 j1 (by have := HFL.out; omega))
    have hpl2 : p < W2.heap.size := by have := j5.size; omega
    have hp2 := (j5.block p hplW hpg).trans hpW
    have hdn2 := own_keep HDNZ.out (W' := W2) (fun b hb => by
     obtain rfl : gd = b := by simpa [Value.ownBlock] using hb
     have h8 : gd < Y2.heap.size := own_block_lt HDNZ.out gd rfl
     exact (j5.block gd (by have := hsz.out; omega) hgdg).trans (HBW.out.block gd h8))
    have hop2 := OpenV.upd (OpenV.below HOPZ.out HBW.out) (by rw [List.length_set]; simpa using hm3) HGW.out j2 j3 (.inr j4) ⟨j5.os, j5.tape, j5.output, j5.size, fun k hk h => j5.block k hk h.1⟩ (fun k c hk => by
     by_cases h8 : k = g
     ·rw [h8, HGW.out] at hk
      simp only [Option.some.injEq, Obj.cells.injEq] at hk
      exact absurd hk.2.1 (by decide)
     ·exact (j5.block k (Array.getElem?_eq_some_iff.1 hk).1 h8).trans hk)
    rw [show ∀ (L : List (List (List Int))) (i : Nat) (x y : List (List Int)), (L.set i x).set i y = L.set i y from fun _ _ _ _ => by simp, TreeV.mixL_take kz z1 z2 A a HQ.out] at hop2
    have hk2 : KB B w W2 := (HKZ.out.trans (KB.of_below HBW.out (by omega))).trans ⟨j5.os, j5.tape, j5.output, j5.size, fun b hb => j5.block b (by omega) (by omega), fun k c hk => by
     by_cases h8 : k = g
     ·rw [h8, HGW.out] at hk
      simp only [Option.some.injEq, Obj.cells.injEq] at hk
      exact absurd hk.2.1 (by decide)
     ·exact (j5.block k (Array.getElem?_eq_some_iff.1 hk).1 h8).trans hk⟩
    have HP2 := hid hp2
    have HDN2 := hid hdn2
    have HOP2 := hid hop2
    have HK2 := hid hk2
    have HBY := hid j1.bytes
    clear hp2 hdn2 hop2 hk2 j1 j2 j3 j4 j5 HTAKE HBW HPZ HDNZ HOPZ HKZ HG2 HC2 HX2 HXE HGW hpW hplW hglW c11 c2
    go_wp2_with fail
    refine HJ.out.mono ?_; rintro e V ⟨u3, rfl, k1, k2⟩
    have hO := ownB_of_own (bytes_flat HBY.out) k1
    obtain ⟨ua, uc, rfl, -, -⟩ := hO.hold.slice
    obtain ⟨FL, hFLe⟩ : ∃ L, LT.flatten = L := ⟨_, rfl⟩
    rw [hFLe] at hO HFL HLT
    simp only [hFLe]
    have HO3 := hid hO.hold
    have HP3 := hid (rowStay HP2.out k2)
    have HDN3 := hid (ownsRow_same' HDN2.out (fun b _ hb => k2.block b hb))
    have HOP3 := hid (OpenV.below HOP2.out k2)
    have HK3 := hid (HK2.out.trans (KB.of_below k2 (by have := HK2.out.size; omega)))
    have hpV : p < V.heap.size := by have := k2.size; omega
    clear k1 k2 hO HP2 HDN2 HOP2 HK2 HJ HBY hFLe
    obtain ⟨r1, hr1⟩ : ∃ r1, r + 1 = r1 := ⟨_, rfl⟩
    have hw1 : IntKind.i64.wrap ((r : Int) + 1) = (r1 : Int) := by rw [IntKind.wrap_i64] <;> omega
    have hr1b : r1 ≤ 256 := by omega
    obtain ⟨cn1, hcn1⟩ : ∃ c, t.cntS A.length r1 = c := ⟨_, rfl⟩
    have hcn1b : cn1 ≤ 4194304 := by have := t.cntS_le A.length r1; omega
    have hgd1 : ((List.range m3).map (t.mixC A.length (r + 1))).getD r1 0 = cn1 := by
     by_cases h8 : r1 < m3
     ·rw [getD_range _ _ h8, ← hcn1, hr1, TreeV.mixC_at]
     ·have h9 : r1 = m3 := by omega
      rw [List.getD_eq_getElem?_getD, List.getElem?_eq_none (by simp; omega)]
      rw [← hcn1, h9]
      show 0 = _
      rcases hm5 with h7 | ⟨h7, -⟩
      ·rw [h7]; exact HM2.out.symm
      ·rw [h7]; exact (TreeV.cntS_zero HM2.out).symm
    have HSE := hid (fun (W : World) (hW : Below V.heap.size V W) => settled_sok t hv _ _ tk p B ((List.range m3).map (t.mixC A.length (r + 1))) r1 W (rowStay HP3.out hW) (by rw [List.length_map, List.length_range]; exact ownsRow_same' HDN3.out (fun b _ hb => hW.block b hb)) (by omega))
    rw [hgd1] at HSE
    obtain ⟨ND, hND⟩ : ∃ d, t.node kz z1 z2 r1 cn1 false false FL = d := ⟨_, rfl⟩
    have hout : t.outS kz z1 z2 A a r1 = ND := by
     rw [← hND, ← HLT.out, ← hcn1, ← hr1]; rfl
    have hTO : ∀ W, Below V.heap.size V W → TreeOk t kz z1 z2 W := fun W hW => ⟨HVD.out, HL.out, (H1.out.kb (HK3.out.trans (KB.of_below hW (by have := HK3.out.size; omega)))).hold, (H2.out.kb (HK3.out.trans (KB.of_below hW (by have := HK3.out.size; omega)))).hold, (H3.out.kb (HK3.out.trans (KB.of_below hW (by have := HK3.out.size; omega)))).hold⟩
    have HTC := hid (fun (W : World) (hW : Below V.heap.size V W) => treeCall_ok t HVD.out HL.out z1 z2 kz r1 cn1 (by omega) (by omega) false false ua FL.length uc W (hTO W hW).s (hTO W hW).p (hTO W hW).k)
    have HNC := hid (fun (W : World) (hW : Below V.heap.size V W) (bv kv : Value) (ho : W.ownsRow V.heap.size 5 1 bv (mB t.big) ((t.blk z1 z2 r1 cn1).map encB)) (hk : W.ownsRow V.heap.size 5 1 kv (keyL r1 kz).length ((keyL r1 kz).map encB)) => node_ok (hTO W hW) (row := r1) (at_ := cn1) (by omega) (by omega) false false FL (.slice ua FL.length uc) bv kv W V.heap.size ho hk (HO3.out.below hW) (by have := HFL.out; omega))
    simp only [hND] at HNC
    have HOUT := hid hout
    have HCN1 := hid hcn1
    have HR1 := hid hr1
    clear hND hout hcn1 hgd1 hTO hr1
    go_wp2_with fail
    refine wp_region_c (n := 17) (w0 := V) (B := V.heap.size) [.v 67 (.pointer (some ⟨p, 0, none⟩)), .v 68 (.pointer (some ⟨p, 0, none⟩)), .v 69 (.pointer (some ⟨p, 0, none⟩)), .v 70 (.agg #[.int .i64 t.k, .int .i64 t.d, .int .i64 t.f, .int .i64 t.p, .int .u32 t.l, .int .i64 t.i, .slice t.ka t.kl t.kc, .slice t.sa t.sl t.sc, .slice t.pa t.pl t.pc]), .v 71 (.int .i64 (r : Nat)), .v 72 (.int .i64 (r1 : Nat)), .v 73 (.pointer (some ⟨p, 0, none⟩)), .v 74 (.int .i64 (r : Nat)), .v 75 (.int .i64 (r1 : Nat)), .v 76 (.int .u64 (cn1 : Nat)), .v 77 (.slice ua FL.length uc), .p 78 (fun u W => ∃ bv kv, u = .agg (callC t.k bv kv false (t.outN false) (.slice ua FL.length uc)) ∧ W.ownsRow V.heap.size 5 1 bv (mB t.big) ((t.blk z1 z2 r1 cn1).map encB) ∧ W.ownsRow V.heap.size 5 1 kv (keyL r1 kz).length ((keyL r1 kz).map encB)), .p 79 (fun u W => ∃ x, u = .tuple #[x, .int .i64 0] ∧ OwnB V.heap.size W x ND), .p 66 (fun u W => ∃ x, u = .tuple #[x, .int .i64 0] ∧ OwnB V.heap.size W x ND), .p 80 (fun u W => OwnB V.heap.size W u ND), .v 81 (.int .i64 0), .p 1 (fun u W => OwnB V.heap.size W u ND)] (by exact ⟨(fun v W W' h hb => by obtain ⟨bv, kv, e, h1, h2⟩ := h; exact ⟨bv, kv, e, ownsRow_same' h1 (fun b _ hb2 => hb.block b hb2), ownsRow_same' h2 (fun b _ hb2 => hb.block b hb2)⟩), (fun v W W' h hb => by obtain ⟨x, e, h1⟩ := h; exact ⟨x, e, h1.kb (KB.of_below hb (Nat.zero_le _))⟩), (fun v W W' h hb => by obtain ⟨x, e, h1⟩ := h; exact ⟨x, e, h1.kb (KB.of_below hb (Nat.zero_le _))⟩), (fun v W W' h hb => OwnB.kb h (KB.of_below hb (Nat.zero_le _))), (fun v W W' h hb => OwnB.kb h (KB.of_below hb (Nat.zero_le _))), trivial⟩) (Below.refl _ _).drew (Nat.le_refl _) ?_ ?_
    ·repeat' (with_reducible first | exact eachO_nil | refine eachO_cons ?_ ?_)
     all_goals try
      intro AA x W hA hW hBW hdep D K hK
      have a0 := hA.2 0 (by decide)
      conv at a0 => rhs; whnf
      have a4 := hA.2 4 (by decide)
      conv at a4 => rhs; whnf
      have a5 := hA.2 5 (by decide)
      conv at a5 => rhs; whnf
      have hpW : p < W.heap.size := by omega
      simp only [DepF, nthF] at D
      clear hdep hA
      go_simp
      exact hK _ _ (Below.refl _ _) rfl
     ·intro AA x W hA hW hBW hdep _ K hK
      have g69 := gv hA hdep 2 69
      clear hdep hA
      exact wp_load_part 26 _ rfl p 0 g69 77 _ #[.int .i64 t.k, .int .i64 t.d, .int .i64 t.f, .int .i64 t.p, .int .u32 t.l, .int .i64 t.i, .slice t.ka t.kl t.kc, .slice t.sa t.sl t.sc, .slice t.pa t.pl t.pc] (0, 0) _ (rowStay HP3.out hW) Try.underlying26 rfl (by kernel_rfl) (fun j hj => strC_tree t hv _ _ tk hj) (hK _ _ (Below.refl _ _) rfl)
     ·intro AA x W hA hW hBW hdep _ K hK
      have g73 := gv hA hdep 6 73
      have g75 := gv hA hdep 8 75
      clear hdep hA
      go_simp
      refine (HSE.out W hW).mono ?_; rintro e w5 ⟨rfl, rfl⟩
      exact hK _ _ (Below.refl _ _) rfl
     ·intro AA x W hA hW hBW hdep _ K hK
      have g70 := gv hA hdep 3 70
      have g72 := gv hA hdep 5 72
      have g76 := gv hA hdep 9 76
      have g77 := gv hA hdep 10 77
      clear hdep hA
      go_simp
      refine (HTC.out W hW).mono ?_; rintro e w5 ⟨bv, kv, rfl, h1, h2, hb5⟩
      exact hK _ _ hb5 ⟨bv, kv, rfl, ownsRow_le h1 hBW, ownsRow_le h2 hBW⟩
     ·intro AA x W hA hW hBW hdep D K hK
      simp only [DepF, nthF] at D
      obtain ⟨⟨bv, kv, e8, h1, h2⟩, -⟩ := D
      have g78 : AA.tmps[78]?.getD undef = .agg (callC t.k bv kv false (t.outN false) (.slice ua FL.length uc)) := by rw [← Array.getD_eq_getD_getElem?]; exact e8
      clear hdep hA e8
      go_simp
      refine (HNC.out W hW bv kv h1 h2).mono ?_; rintro e w5 ⟨x9, rfl, ho9, hb5⟩
      exact hK _ _ hb5 ⟨x9, rfl, ho9.le hBW⟩
     ·intro AA x W hA hW hBW hdep D K hK
      simp only [DepF, nthF] at D
      obtain ⟨⟨x9, e9, ho9⟩, -⟩ := D
      have g79 : AA.tmps[79]?.getD undef = .tuple #[x9, .int .i64 0] := by rw [← Array.getD_eq_getD_getElem?]; exact e9
      clear hdep hA e9
      go_simp
      exact hK _ _ (Below.refl _ _) ⟨x9, rfl, ho9⟩
     ·intro AA x W hA hW hBW hdep D K hK
      simp only [DepF, nthF] at D
      obtain ⟨⟨x9, e9, ho9⟩, -⟩ := D
      have g66 : AA.tmps[66]?.getD undef = .tuple #[x9, .int .i64 0] := by rw [← Array.getD_eq_getD_getElem?]; exact e9
      clear hdep hA e9
      go_simp
      exact hK _ _ (Below.refl _ _) ho9
     ·intro AA x W hA hW hBW hdep D K hK
      simp only [DepF, nthF] at D
      obtain ⟨⟨x9, e9, ho9⟩, -⟩ := D
      have g66 : AA.tmps[66]?.getD undef = .tuple #[x9, .int .i64 0] := by rw [← Array.getD_eq_getD_getElem?]; exact e9
      clear hdep hA e9
      go_simp
      exact hK _ _ (Below.refl _ _) rfl
     ·intro AA x W hA hW hBW hdep D K hK
      simp only [DepF, nthF] at D
      obtain ⟨ho9, -⟩ := D
      obtain ⟨x9, hx9⟩ : ∃ x9, AA.tmps.getD 80 undef = x9 := ⟨_, rfl⟩
      rw [hx9] at ho9
      have g80 : AA.tmps[80]?.getD undef = x9 := by rw [← Array.getD_eq_getD_getElem?]; exact hx9
      clear hdep hA hx9
      go_simp
      exact hK _ _ (Below.refl _ _) ho9
    intro x W hW hBW hall
    obtain ⟨-, -, -, -, e1, -⟩ := hall
    change (fun u W => OwnB V.heap.size W u ND) (x 1) W at e1
    refine thenTail_nil ?_
    simp only [layS, Act.put, List.setIfInBounds_toArray, List.set_cons_zero, List.set_cons_succ]
    generalize x 1 = X1 at *
    have HX1 := hid e1
    have HPW := hid (rowStay HP3.out hW)
    have HDNW := hid (ownsRow_same' HDN3.out (fun b _ hb => hW.block b hb))
    have HOPW := hid (OpenV.below HOP3.out hW)
    have HKW := hid (HK3.out.trans (KB.of_below hW (by have := HK3.out.size; omega)))
    clear e1 hW HP3 HDN3 HOP3 HK3 HSE HTC HNC
    go_wp2_with fail
    obtain ⟨hrm3, rfl⟩ := hrm2.out
    have hop9 := HOPW.out
    have hdn9 := HDNW.out
    rw [HR1.out] at hop9 hdn9
    refine ⟨⟨r1, rfl, by have := HR1.out; omega, hid (by rw [← HR1.out]; exact HQ.out), by rw [HOUT.out]; exact HX1.out.le (by have := HKW.out.size; omega), ⟨_, _, _, HPW.out, hop9, by simpa using hdn9⟩, HKW.out⟩, ?_⟩
    have := HR1.out
    simp [intOf]; omega
/-- Bytes of one's own, with room behind them. -/
def OwnR (B : Nat) (w : World) (x : Value) (z : List Int) : Prop := (∀ a ∈ z, 0 ≤ a ∧ a ≤ 255) ∧ w.ownsRow B 5 1 x z.length (z.map encB)
theorem OwnR.own {B : Nat} {w : World} {x : Value} {z : List Int} (h : OwnR B w x z) : OwnB B w x z := ownB_of_own h.1 h.2
theorem OwnR.hold {B : Nat} {w : World} {x : Value} {z : List Int} (h : OwnR B w x z) : Hold w x z := h.own.hold
theorem OwnR.kb {B b : Nat} {w w' : World} {x : Value} {z : List Int} (h : OwnR B w x z) (k : KB b w w') : OwnR B w' x z := ⟨h.1, own_kb h.2 k⟩
theorem OwnR.nil (B : Nat) (w : World) : OwnR B w (.slice none 0 0) [] := ⟨(fun a ha => by cases ha), World.ownsRow_nil _ _ _ _⟩
/-- A stream in memory: of zs it has taken A's leaves and h; tk is what it says it took. w1: the world in which nothing was held; since then its own block, and younger ones, turned alone. -/
structure StrMem (t : TreeV) (kz z1 z2 : List Int) (B p : Nat) (tk : Nat) (zs : List Int) (A : List (List Int)) (h : List Int) (hv : Value) (m : Nat) (w1 w : World) : Prop where
 v : t.validE = 0
 l : 0 ≤ t.l ∧ t.l ≤ 4294967295
 k : OwnB B w1 (.slice t.ka t.kl t.kc) kz
 s : OwnB B w1 (.slice t.sa t.sl t.sc) z1
 q : OwnB B w1 (.slice t.pa t.pl t.pc) z2
 bp : B ≤ p
 rows : ∃ ov dv vs c, w1.heap[p]? = some (.cells c 77 (0, 0)) ∧ OpenV B w1 ov vs ((List.range m).map (t.openL kz z1 z2 A)) ∧ w1.ownsRow B 36 1 dv m (((List.range m).map (t.cntS A.length)).map encU) ∧ w.heap[p]? = some (.cells (strC t hv (tk : Int) ov dv) 77 (0, 0))
 but : But p w1 w
 m1 : ∀ r, r < m → 0 < t.cntS A.length r
 m2 : t.cntS A.length m = 0
 held : OwnR w1.heap.size w hv h
 a : ∀ x ∈ A, x.length ≤ 64
 of : StrOf t kz z1 z2 zs A h
 hl : h.length ≤ t.ln
theorem OpenV.but {B p : Nat} {w w' : World} {lv : Value} {vs : List Value} {LL : List (List (List Int))} {c : Array Value} {T : TypeId} {fr : Nat × Nat} (h : OpenV B w lv vs LL) (hp : w.heap[p]? = some (.cells c T fr)) (h0 : T ≠ 82) (h1 : T ≠ 24) (h2 : T ≠ 5) (hb : But p w w') : OpenV B w' lv vs LL := by
 have hk := KB.of_but hb (Nat.zero_le _) (Nat.zero_le _) hp h2
 refine h.tend hk.bytes (fun g hg => hb.block g (own_block_lt h.1 g hg) (own_off h.1 hp h0 g hg)) fun i g hi hg => ?_
 obtain ⟨ys, hys⟩ := (h.2.1 i hi).row
 exact hb.block g (own_block_lt hys g hg) (own_off hys hp h1 g hg)
theorem own_butp {B T s n p : Nat} {w w' : World} {v : Value} {xs : List Value} {c : Array Value} {T2 : TypeId} {fr : Nat × Nat} (h : w.ownsRow B T s v n xs) (hp : w.heap[p]? = some (.cells c T2 fr)) (hT : T2 ≠ T) (hb : But p w w') : w'.ownsRow B T s v n xs :=
 own_keep h fun g hg => hb.block g (own_block_lt h g hg) (own_off h hp hT g hg)
/-- What is known of it. -/
structure StrNow (t : TreeV) (kz z1 z2 : List Int) (B p : Nat) (tk : Nat) (A : List (List Int)) (h : List Int) (hv : Value) (m : Nat) (w : World) : Prop where
 k : OwnB B w (.slice t.ka t.kl t.kc) kz
 s : OwnB B w (.slice t.sa t.sl t.sc) z1
 q : OwnB B w (.slice t.pa t.pl t.pc) z2
 rows : RowsP t hv (tk : Int) p B ((List.range m).map (t.openL kz z1 z2 A)) ((List.range m).map (t.cntS A.length)) w
 held : OwnB B w hv h
variable {t : TreeV} {kz z1 z2 : List Int} {B p tk : Nat} {zs : List Int} {A : List (List Int)} {h : List Int} {hv : Value} {m : Nat} {w1 w w' : World}
theorem StrMem.bw (s : StrMem t kz z1 z2 B p tk zs A h hv m w1 w) : B ≤ w1.heap.size := by
 obtain ⟨ov, dv, vs, c, h1, -⟩ := s.rows
 have := (Array.getElem?_eq_some_iff.1 h1).1
 have := s.bp
 omega
theorem StrMem.kb (s : StrMem t kz z1 z2 B p tk zs A h hv m w1 w) : KB B w1 w := by
 obtain ⟨ov, dv, vs, c, h1, -⟩ := s.rows
 exact KB.of_but s.but s.bw s.bp h1 (by decide)
theorem StrMem.now (s : StrMem t kz z1 z2 B p tk zs A h hv m w1 w) : StrNow t kz z1 z2 B p tk A h hv m w := by
 have hk := s.kb
 obtain ⟨ov, dv, vs, c, h1, h2, h3, h4⟩ := s.rows
 exact ⟨s.k.kb hk, s.s.kb hk, s.q.kb hk, ⟨ov, dv, vs, h4, h2.but h1 (by decide) (by decide) (by decide) s.but, by simpa using own_butp h3 h1 (by decide) s.but⟩, s.held.own.le s.bw⟩
theorem StrMem.below (s : StrMem t kz z1 z2 B p tk zs A h hv m w1 w) (hb : Below w.heap.size w w') : StrMem t kz z1 z2 B p tk zs A h hv m w1 w' := by
 obtain ⟨ov, dv, vs, c, h1, h2, h3, h4⟩ := s.rows
 exact ⟨s.v, s.l, s.k, s.s, s.q, s.bp, ⟨ov, dv, vs, c, h1, h2, h3, rowStay h4 hb⟩, s.but.trans (But.of_below' hb), s.m1, s.m2, s.held.kb (KB.of_below hb (Nat.zero_le _)), s.a, s.of, s.hl⟩
/-- Nothing is held. -/
theorem StrNow.mem (s : StrNow t kz z1 z2 B p tk A [] (.slice none 0 0) m w) (hv : t.validE = 0) (hl : 0 ≤ t.l ∧ t.l ≤ 4294967295) (hp : B ≤ p) (h1 : ∀ r, r < m → 0 < t.cntS A.length r) (h2 : t.cntS A.length m = 0) (ha : ∀ x ∈ A, x.length ≤ 64) (ho : StrOf t kz z1 z2 zs A []) : StrMem t kz z1 z2 B p tk zs A [] (.slice none 0 0) m w w := by
 obtain ⟨ov, dv, vs, h4, h5, h6⟩ := s.rows
 exact ⟨hv, hl, s.k, s.s, s.q, hp, ⟨ov, dv, vs, _, h4, h5, by simpa using h6, h4⟩, But.refl _ _, h1, h2, OwnR.nil _ _, ha, ho, Nat.zero_le _⟩
/-- Other bytes are held, and another count is told. -/
theorem StrMem.hold (s : StrMem t kz z1 z2 B p tk zs A h hv m w1 w) {h' zs' : List Int} {hv' : Value} {tk' : Nat} (hb : But p w1 w') (hp : ∀ ov dv, w.heap[p]? = some (.cells (strC t hv (tk : Int) ov dv) 77 (0, 0)) → w'.heap[p]? = some (.cells (strC t hv' (tk' : Int) ov dv) 77 (0, 0))) (ho : OwnR w1.heap.size w' hv' h') (hof : StrOf t kz z1 z2 zs' A h') (hl : h'.length ≤ t.ln) : StrMem t kz z1 z2 B p tk' zs' A h' hv' m w1 w' := by
 obtain ⟨ov, dv, vs, c, h1, h2, h3, h4⟩ := s.rows
 exact ⟨s.v, s.l, s.k, s.s, s.q, s.bp, ⟨ov, dv, vs, c, h1, h2, h3, hp _ _ h4⟩, hb, s.m1, s.m2, ho, s.a, hof, hl⟩
theorem StrMem.mb (s : StrMem t kz z1 z2 B p tk zs A h hv m w1 w) : m ≤ 255 := by
 have h1 := TreeV.valid_facts s.v
 rcases m with _ | _ | r
 ·omega
 ·omega
 ·have h2 := s.m1 (r + 1) (by omega)
  rw [TreeV.cntS_next] at h2
  by_cases h3 : t.fn = 0 ∨ t.pn ≤ r + 2
  ·rw [if_pos h3] at h2; omega
  ·unfold TreeV.pn at h3; omega
def StrAt (t : TreeV) (kz z1 z2 : List Int) (B p : Nat) (zs : List Int) (w : World) : Prop := (∃ A h hv m w1, StrMem t kz z1 z2 B p zs.length zs A h hv m w1 w ∧ (h = [] → zs = [])) ∧ zs.length ≤ 4194304
theorem new_err (t : TreeV) (w : World) (h : t.validE ≠ 0) :
  Calls Try.prog 18 #[t.val] w fun e w' => e = .returned (.tuple #[.pointer none, .int .i64 t.validE]) ∧ Below w.heap.size w w' := by
 obtain ⟨b0, hb0⟩ : ∃ b0, w.heap.size = b0 := ⟨_, rfl⟩
 have HVL := hid (valid_any t)
 have hbA : Below b0 w (w.alloc (.cells #[.int .i64 t.k, .int .i64 t.d, .int .i64 t.f, .int .i64 t.p, .int .u32 t.l, .int .i64 t.i, .slice t.ka t.kl t.kc, .slice t.sa t.sl t.sc, .slice t.pa t.pl t.pc] 26)) := by rw [← hb0]; exact (Below.refl _ _).alloc (Nat.le_refl _) _
 have hrA := World.alloc_heap_new w (.cells #[.int .i64 t.k, .int .i64 t.d, .int .i64 t.f, .int .i64 t.p, .int .u32 t.l, .int .i64 t.i, .slice t.ka t.kl t.kc, .slice t.sa t.sl t.sc, .slice t.pa t.pl t.pc] 26)
 rw [hb0] at hrA
 generalize t.validE = ev at *
 have hq : (ev != 0) = true := by rw [bne_iff_ne]; exact h
 clear h
 unfold TreeV.val at *
 go_enter Try.func18, Try.ntmps18
 go_upto_region 1 with (fail)
 generalize w.alloc (.cells #[.int .i64 t.k, .int .i64 t.d, .int .i64 t.f, .int .i64 t.p, .int .u32 t.l, .int .i64 t.i, .slice t.ka t.kl t.kc, .slice t.sa t.sl t.sc, .slice t.pa t.pl t.pc] 26) = wA at *
 go_wp2_with ((with_reducible show wpList _ _ _ (Oper.mk _ (Op.load 26 _) _ _ _ _ :: _) _ _); refine wpList_load_row rfl 26 _ rfl b0 rfl _ _ _ _ hrA Try.underlying26 rfl (by kernel_rfl) ?_)
 refine (HVL.out wA).mono ?_; rintro e w2 ⟨rfl, hb2⟩
 have HB2 := hid (hbA.trans (hb2.mono (by have := (Array.getElem?_eq_some_iff.1 hrA).1; omega)))
 clear hrA hbA hb2
 go_wp2
 all_goals
  go_ret2
  exact ⟨rfl, by rw [hb0]; exact HB2.out⟩
theorem rows_nil (t : TreeV) (w : World) (p B : Nat) (h : w.heap[p]? = some (.cells (strC t (.slice none 0 0) 0 (.slice none 0 0) (.slice none 0 0)) 77 (0, 0))) : RowsP t (.slice none 0 0) 0 p B [] [] w :=
 ⟨_, _, [], h, ⟨World.ownsRow_nil _ _ _ _, fun i hi => by simp at hi, fun i j g _ hj => by simp at hj⟩, World.ownsRow_nil _ _ _ _⟩
theorem new_ok (t : TreeV) (kz z1 z2 : List Int) (w : World) (h : TreeOk t kz z1 z2 w) :
  Calls Try.prog 18 #[t.val] w fun e w' => ∃ p a1 c1 a2 c2 a3 c3, e = .returned (.tuple #[.pointer (some ⟨p, 0, none⟩), .int .i64 0]) ∧ StrAt (t.sw a1 c1 a2 c2 a3 c3) kz z1 z2 w.heap.size p [] w' ∧ Below w.heap.size w w' := by
 obtain ⟨b0, hb0⟩ : ∃ b0, w.heap.size = b0 := ⟨_, rfl⟩
 have hvl := valid_any t
 simp only [h.v] at hvl
 have HVL := hid hvl
 have HT := hid h
 have hlen : t.kl ≤ 70368744177664 ∧ t.sl ≤ 70368744177664 ∧ t.pl ≤ 70368744177664 := by
  have h1 := TreeV.valid_facts h.v
  have h2 : sizeK t.k ≤ 64 := by unfold sizeK; split <;> omega
  have h3 : saltK t.k ≤ 16 := by unfold saltK; split <;> omega
  omega
 have HCP := hid (fun (W : World) (hb : Below b0 w W) => copiedT_ok t kz z1 z2 W (h.k.below (hb0 ▸ hb)) (h.s.below (hb0 ▸ hb)) (h.p.below (hb0 ▸ hb)) hlen.1 hlen.2.1 hlen.2.2)
 have hbA : Below b0 w (w.alloc (.cells #[.int .i64 t.k, .int .i64 t.d, .int .i64 t.f, .int .i64 t.p, .int .u32 t.l, .int .i64 t.i, .slice t.ka t.kl t.kc, .slice t.sa t.sl t.sc, .slice t.pa t.pl t.pc] 26)) := by rw [← hb0]; exact (Below.refl _ _).alloc (Nat.le_refl _) _
 have hrA := World.alloc_heap_new w (.cells #[.int .i64 t.k, .int .i64 t.d, .int .i64 t.f, .int .i64 t.p, .int .u32 t.l, .int .i64 t.i, .slice t.ka t.kl t.kc, .slice t.sa t.sl t.sc, .slice t.pa t.pl t.pc] 26)
 rw [hb0] at hrA
 clear h hvl hlen
 unfold TreeV.val at *
 go_enter Try.func18, Try.ntmps18
 go_upto_region 1 with (fail)
 generalize w.alloc (.cells #[.int .i64 t.k, .int .i64 t.d, .int .i64 t.f, .int .i64 t.p, .int .u32 t.l, .int .i64 t.i, .slice t.ka t.kl t.kc, .slice t.sa t.sl t.sc, .slice t.pa t.pl t.pc] 26) = wA at *
 go_wp2_with ((with_reducible show wpList _ _ _ (Oper.mk _ (Op.load 26 _) _ _ _ _ :: _) _ _); refine wpList_load_row rfl 26 _ rfl b0 rfl _ _ _ _ hrA Try.underlying26 rfl (by kernel_rfl) ?_)
 refine (HVL.out wA).mono ?_; rintro e w2 ⟨rfl, hb2⟩
 have hr2 := rowStay hrA hb2
 have hB2 := hbA.trans (hb2.mono (by have := (Array.getElem?_eq_some_iff.1 hrA).1; omega))
 have HC2 := hid (HCP.out w2 hB2)
 have HB2 := hid hB2
 have hs2 : b0 < w2.heap.size := (Array.getElem?_eq_some_iff.1 hr2).1
 clear hrA hbA hb2 hB2 HCP
 go_wp2_with ((with_reducible show wpList _ _ _ (Oper.mk _ (Op.load 26 _) _ _ _ _ :: _) _ _); refine wpList_load_row rfl 26 _ rfl b0 rfl _ _ _ _ hr2 Try.underlying26 rfl (by kernel_rfl) ?_)
 refine HC2.out.mono ?_; rintro e w3 ⟨u, rfl, ⟨a1, c1, a2, c2, a3, c3, rfl, o1, o2, o3⟩, hb3⟩
 have HO1 := hid o1
 have HO2 := hid o2
 have HO3 := hid o3
 have HB3 := hid (HB2.out.trans (hb3.mono (by omega)))
 have hs3 := hb3.size
 clear o1 o2 o3 hb3 hr2 HC2
 unfold TreeV.val TreeV.sw
 go_wp2
 go_ret2
 have hbN : Below w3.heap.size w3 (w3.alloc (.cells (strC (t.sw a1 c1 a2 c2 a3 c3) (.slice none 0 0) 0 (.slice none 0 0) (.slice none 0 0)) 77)) := (Below.refl _ _).alloc (Nat.le_refl _) _
 have hkN := KB.of_below hbN (Nat.zero_le _)
 rw [hb0]
 refine ⟨w3.heap.size, a1, c1, a2, c2, a3, c3, rfl, ⟨⟨[], [], .slice none 0 0, 0, _, StrNow.mem ?_ HT.out.v HT.out.l (by omega) (fun r hr => absurd hr (by omega)) rfl (fun x hx => by cases hx) (StrOf.nil _ _ _ _), fun _ => rfl⟩, by simp⟩, HB3.out.trans (hbN.mono (by omega))⟩
 exact ⟨(HO1.out.kb hkN).le (by omega), (HO2.out.kb hkN).le (by omega), (HO3.out.kb hkN).le (by omega), rows_nil _ _ _ _ (World.alloc_heap_new w3 _), ⟨(fun a ha => by cases ha), .inl ⟨rfl, rfl⟩⟩⟩
theorem hold_low {B : Nat} {w w' : World} {v : Value} {zs : List Int} (h : Hold w v zs) (hB : zs ≠ [] → ∀ k, v.ownBlock = some k → k < B) (hb : Below B w w') : Hold w' v zs := by
 by_cases hz : zs = []
 ·subst hz
  refine ⟨h.1, ?_⟩
  rcases h.2 with h3 | ⟨ad, cap, h3, h4, h5, -⟩
  ·exact .inl h3
  ·exact .inr ⟨ad, cap, h3, h4, h5, .inl rfl⟩
 ·exact h.keep hb.size fun b hv _ => hb.block b (hB hz b hv)
theorem StrAt.below {t : TreeV} {kz z1 z2 : List Int} {B p : Nat} {zs : List Int} {w w' : World} (hs : StrAt t kz z1 z2 B p zs w) (hb : Below w.heap.size w w') : StrAt t kz z1 z2 B p zs w' := by
 obtain ⟨⟨A, h, hh, m, w1, S, h0⟩, hn⟩ := hs
 exact ⟨⟨A, h, hh, m, w1, S.below hb, h0⟩, hn⟩
theorem StrMem.off {t : TreeV} {kz z1 z2 : List Int} {B p tk : Nat} {zs : List Int} {A : List (List Int)} {h : List Int} {hv : Value} {m : Nat} {w1 w : World} (s : StrMem t kz z1 z2 B p tk zs A h hv m w1 w) : ∀ k, hv.ownBlock = some k → w1.heap.size ≤ k ∧ k ≠ p := fun k hk => by
 obtain ⟨ov, dv, vs, c, r1, -, -, -⟩ := s.rows
 have h1 := own_block_ge s.held.2 k hk
 have h2 := (Array.getElem?_eq_some_iff.1 r1).1
 exact ⟨h1, by omega⟩
theorem write_sok (t : TreeV) (kz z1 z2 : List Int) (B p : Nat) (zs bz : List Int) (v : Value) (w : World) (hs : StrAt t kz z1 z2 B p zs w) (hv : Hold w v bz) (hvB : bz ≠ [] → ∀ k, v.ownBlock = some k → k < B) (hn : zs.length + bz.length ≤ 4194304) :
  Calls Try.prog 19 #[.pointer (some ⟨p, 0, none⟩), v] w fun e w' => e = .returned (.int .i64 0) ∧ StrAt t kz z1 z2 B p (zs ++ bz) w' ∧ Below B w w' := by
 obtain ⟨⟨A, h, hh, m, w1, S, h0⟩, -⟩ := hs
 obtain ⟨i0, hi, hz0, hz1, hz2⟩ := info_parts info_u8
 obtain ⟨tk, htk⟩ : ∃ tk, zs.length + bz.length = tk := ⟨_, rfl⟩
 have HTK := hid htk
 obtain ⟨ov, dv, vs, c, -, -, -, r4⟩ := id S.rows
 have HNO := hid (none_sok t hh ov dv (zs.length : Nat) p w r4)
 have c10 : w.cell? ⟨p, 10, none⟩ = some (.int .u64 (zs.length : Nat)) := cell_of_heap r4 10
 have f10 := frozen_of_row w p 10 _ _ r4
 have hpl : p < w.heap.size := (Array.getElem?_eq_some_iff.1 r4).1
 obtain ⟨va, vc, rfl, hvc1, hvc2⟩ := id hv.slice
 have hju : IntKind.u64.wrap (bz.length : Int) = (bz.length : Int) := u64_wrap_id _ (by omega) (by omega)
 have hju2 : IntKind.u64.wrap ((zs.length : Int) + (bz.length : Int)) = (tk : Int) := by rw [u64_wrap_id _ (by omega) (by omega)]; omega
 have HS := hid (S.hold (h' := h) (zs' := zs) (hv' := hh) (tk' := tk) (w' := w.setCell ⟨p, 10, none⟩ (.int .u64 (tk : Nat))) (S.but.set 10 _) (fun ov dv e => heap_setCell_same w p 10 _ _ _ e) (S.held.kb (KB.of_but ((But.refl p _).set 10 _) (Nat.zero_le _) (Nat.zero_le _) r4 (by decide))) S.of S.hl)
 have H0 := hid h0
 have hbB : Below B w (w.setCell ⟨p, 10, none⟩ (.int .u64 (tk : Nat))) := (Below.refl _ _).setCell S.bp _
 have HBB := hid hbB
 have HVB := hid hvB
 have HV := hid (hold_low hv hvB hbB)
 clear S h0 r4 hv hvB hbB htk
 go_enter Try.func19, Try.ntmps19
 go_wp2_with fail
 refine HNO.out.mono ?_; rintro e w' ⟨rfl, rfl⟩
 clear HNO
 go_wp2_with fail
 go_loopw [1] (fun x wr => ∃ (k : Nat) (A : List (List Int)) (h : List Int) (hh : Value) (m : Nat) (w1 : World), k ≤ bz.length ∧ Hold wr x (bz.drop k) ∧ (bz.drop k ≠ [] → ∀ g, x.ownBlock = some g → g < B) ∧ StrMem t kz z1 z2 B p tk (zs ++ bz.take k) A h hh m w1 wr ∧ (h = [] → zs ++ bz.take k = []) ∧ Below B w' wr) (fun x _ => lenV x)
 case atStart => exact ⟨0, A, h, hh, m, w1, Nat.zero_le _, HV.out, HVB.out, by rw [List.take_zero, List.append_nil]; exact HS.out, by rw [List.take_zero, List.append_nil]; exact H0.out, HBB.out⟩
 case round =>
  clear HS H0 HV HBB HVB c10 f10 hpl
  clear A h hh m w1 ov dv vs c
  obtain ⟨k, A, h, hh, m, w1, hk, hx, hxB, S, h0, hb⟩ := hrel
  obtain ⟨mm, hmm⟩ : ∃ mm, (bz.drop k).length = mm := ⟨_, rfl⟩
  have hmk : mm = bz.length - k := by rw [← hmm, List.length_drop]
  obtain ⟨xa, xc, rfl, hx1, hx2⟩ := id hx.slice
  rw [hmm] at hx hx1 hxB ⊢
  have HMM := hid hmm
  have HMK := hid hmk
  have hx1i : (mm : Int) ≤ xc := by omega
  clear hmm hmk
  by_cases hlt : 0 < mm
  case pos =>
   have hm2 : 0 < (mm : Int) := by omega
   have hln : (t.ln : Int) = t.l := by have := S.l; unfold TreeV.ln; omega
   have hl1 : 1 ≤ t.ln := by
    have := (TreeV.valid_facts S.v).2.2.2.2.2.2.2.2.1
    have := S.l
    unfold TreeV.ln; omega
   have hl2 : 0 ≤ t.l ∧ t.l ≤ 4294967295 := S.l
   have hwl : IntKind.i64.wrap t.l = t.l := by rw [IntKind.wrap_i64] <;> omega
   have hof := S.of.le
   have htkl : (zs ++ bz.take k).length ≤ 4194304 := by rw [List.length_append, List.length_take]; omega
   obtain ⟨ov, dv, vs, c, -, -, -, r4⟩ := id S.rows
   obtain ⟨ha, hc, rfl, hh1, hh2⟩ := id S.held.hold.slice
   have c9 : wr.cell? ⟨p, 9, none⟩ = some (.slice ha h.length hc) := cell_of_heap r4 9
   have c4 : wr.cell? ⟨p, 4, none⟩ = some (.int .u32 t.l) := cell_of_heap r4 4
   have hpl : p < wr.heap.size := (Array.getElem?_eq_some_iff.1 r4).1
   have HL := hid hln
   have HL2 := hid hl2
   have HS := hid S
   have HH0 := hid h0
   have HX := hid hx
   have HXB := hid hxB
   have HB := hid hb
   have HOF := hid hof
   have HTL := hid htkl
   clear S h0 hx hxB hb hln hl2 hof htkl r4
   go_upto_region 5 with (fail)
   go_quiet (fail)
   have hbq : Below wr.heap.size wr (wr.drewN nq) := Below.drewN' nq
   have hs1 := HS.out.below hbq
   have hx1q := HX.out.below hbq
   have hb1 := HB.out.trans (hbq.mono (show B ≤ wr.heap.size by have := HS.out.bp; omega))
   clear HS HX HB hbq c9 c4 hpl
   generalize wr.drewN nq = W0 at *
   by_cases hf : h.length = t.ln
   case' pos =>
    have hq : ((h.length : Int) == t.l) = true := by rw [beq_iff_eq]; have := HL.out; omega
    have S := hs1
    have HN := hid S.now
    obtain ⟨ov, dv, vs, hp, hop, hdn⟩ := HN.out.rows
    have hcr : ((List.range m).map (t.cntS A.length)).length = m := by simp
    rw [hcr] at hdn
    have HP := hid hp
    have HOP := hid hop
    have HDN := hid hdn
    have hln := HL.out
    have htkl := HTL.out
    obtain ⟨cn, hcn⟩ : ∃ cn, A.length = cn := ⟨_, rfl⟩
    have hgd : ((List.range m).map (t.cntS A.length)).getD 0 0 = cn := by
     rw [← hcn]
     by_cases h8 : 0 < m
     ·rw [getD_range _ _ h8]; rfl
     ·obtain rfl : m = 0 := by omega
      exact S.m2.symm
    have hse := fun (W : World) (hW : Below W0.heap.size W0 W) => settled_sok t _ _ _ (tk : Int) p B ((List.range m).map (t.cntS A.length)) 0 W (rowStay HP.out hW) (by rw [List.length_map, List.length_range]; exact ownsRow_same' HDN.out (fun b _ hb => hW.block b hb)) (by omega)
    rw [hgd] at hse
    have HSE := hid hse
    have hcn1 : cn ≤ 4194304 := by
     have h8 := S.of.le
     have h9 : 1 ≤ t.ln := by omega
     have h10 : A.length * 1 ≤ A.length * t.ln := Nat.mul_le_mul_left _ h9
     omega
    have hTO : ∀ W, Below W0.heap.size W0 W → TreeOk t kz z1 z2 W := fun W hW => ⟨S.v, S.l, (HN.out.k.kb (KB.of_below hW (Nat.zero_le _))).hold, (HN.out.s.kb (KB.of_below hW (Nat.zero_le _))).hold, (HN.out.q.kb (KB.of_below hW (Nat.zero_le _))).hold⟩
    have HTC := hid (fun (W : World) (hW : Below W0.heap.size W0 W) => treeCall_ok t S.v S.l z1 z2 kz 0 cn (by omega) (by omega) false false ha h.length hc W (hTO W hW).s (hTO W hW).p (hTO W hW).k)
    obtain ⟨ND, hND⟩ : ∃ d, t.node kz z1 z2 0 cn false false h = d := ⟨_, rfl⟩
    have hnc := fun (W : World) (hW : Below W0.heap.size W0 W) (bv kv : Value) (ho : W.ownsRow W0.heap.size 5 1 bv (mB t.big) ((t.blk z1 z2 0 cn).map encB)) (hk : W.ownsRow W0.heap.size 5 1 kv (keyL 0 kz).length ((keyL 0 kz).map encB)) => node_ok (hTO W hW) (row := 0) (at_ := cn) (by omega) (by omega) false false h (.slice ha h.length hc) bv kv W W0.heap.size ho hk (HN.out.held.hold.below hW) (by have h8 := S.of.le; omega)
    rw [hND] at hnc
    have HNC := hid hnc
    have hndl : ND.length ≤ 64 := by rw [← hND]; exact TreeV.node_len ..
    have hof2 := S.of.settle hf
    rw [hcn, hND] at hof2
    have HOF2 := hid hof2
    have HNDL := hid hndl
    have HHN := hid (show A.length = cn from hcn)
    have HS := hid S
    have HXQ := hid hx1q
    have HBQ := hid hb1
    have hplW : p < W0.heap.size := (Array.getElem?_eq_some_iff.1 hp).1
    clear S hs1 hp hop hdn hcr hgd hse hnc hTO hND hcn hndl hof2 hx1q hb1 hln htkl hf
    go_upto_region 6 with (fail)
    refine wp_region_c (n := 17) (w0 := W0) (B := W0.heap.size) [.v 36 (.pointer (some ⟨p, 0, none⟩)), .v 37 (.pointer (some ⟨p, 0, none⟩)), .v 38 (.pointer (some ⟨p, 0, none⟩)), .v 39 (.agg #[.int .i64 t.k, .int .i64 t.d, .int .i64 t.f, .int .i64 t.p, .int .u32 t.l, .int .i64 t.i, .slice t.ka t.kl t.kc, .slice t.sa t.sl t.sc, .slice t.pa t.pl t.pc]), .v 40 (.pointer (some ⟨p, 0, none⟩)), .v 41 (.int .u64 (cn : Nat)), .v 42 (.pointer (some ⟨p, 0, none⟩)), .v 43 (.pointer (some ⟨p, 0, none⟩)), .v 44 (.pointer (some ⟨p, 9, none⟩)), .v 45 (.slice ha h.length hc), .p 46 (fun u W => ∃ bv kv, u = .agg (callC t.k bv kv false (t.outN false) (.slice ha h.length hc)) ∧ W.ownsRow W0.heap.size 5 1 bv (mB t.big) ((t.blk z1 z2 0 cn).map encB) ∧ W.ownsRow W0.heap.size 5 1 kv (keyL 0 kz).length ((keyL 0 kz).map encB)), .p 47 (fun u W => ∃ x, u = .tuple #[x, .int .i64 0] ∧ OwnB W0.heap.size W x ND), .p 35 (fun u W => ∃ x, u = .tuple #[x, .int .i64 0] ∧ OwnB W0.heap.size W x ND), .p 48 (fun u W => OwnB W0.heap.size W u ND), .v 49 (.int .i64 0), .p 5 (fun u W => OwnB W0.heap.size W u ND), .v 6 (.int .i64 0)] (by exact ⟨(fun v W W' h hb => by obtain ⟨bv, kv, e, h1, h2⟩ := h; exact ⟨bv, kv, e, ownsRow_same' h1 (fun b _ hb2 => hb.block b hb2), ownsRow_same' h2 (fun b _ hb2 => hb.block b hb2)⟩), (fun v W W' h hb => by obtain ⟨x, e, h1⟩ := h; exact ⟨x, e, h1.kb (KB.of_below hb (Nat.zero_le _))⟩), (fun v W W' h hb => by obtain ⟨x, e, h1⟩ := h; exact ⟨x, e, h1.kb (KB.of_below hb (Nat.zero_le _))⟩), (fun v W W' h hb => OwnB.kb h (KB.of_below hb (Nat.zero_le _))), (fun v W W' h hb => OwnB.kb h (KB.of_below hb (Nat.zero_le _))), trivial⟩) (Below.refl _ _).drew (Nat.le_refl _) ?_ ?_
    ·repeat' (with_reducible first | exact eachO_nil | refine eachO_cons ?_ ?_)
     all_goals try
      intro AA x W hA hW hBW hdep D K hK
      have a0 := hA.2 0 (by decide)
      conv at a0 => rhs; whnf
      have hpW : p < W.heap.size := by omega
      have c9 : W.cell? ⟨p, 9, none⟩ = some (.slice ha h.length hc) := cell_of_heap (rowStay HP.out hW) 9
      simp only [DepF, nthF] at D
      clear hdep hA
      go_simp
      exact hK _ _ (Below.refl _ _) rfl
     ·intro AA x W hA hW hBW hdep _ K hK
      have g38 := gv hA hdep 2 38
      clear hdep hA
      exact wp_load_part 26 _ rfl p 0 g38 77 _ #[.int .i64 t.k, .int .i64 t.d, .int .i64 t.f, .int .i64 t.p, .int .u32 t.l, .int .i64 t.i, .slice t.ka t.kl t.kc, .slice t.sa t.sl t.sc, .slice t.pa t.pl t.pc] (0, 0) _ (rowStay HP.out hW) Try.underlying26 rfl (by kernel_rfl) (fun j hj => strC_tree t _ _ _ _ hj) (hK _ _ (Below.refl _ _) rfl)
     ·intro AA x W hA hW hBW hdep _ K hK
      have g40 := gv hA hdep 4 40
      clear hdep hA
      go_simp
      refine (HSE.out W hW).mono ?_; rintro e w5 ⟨rfl, rfl⟩
      exact hK _ _ (Below.refl _ _) rfl
     ·intro AA x W hA hW hBW hdep _ K hK
      have g39 := gv hA hdep 3 39
      have g41 := gv hA hdep 5 41
      have g45 := gv hA hdep 9 45
      clear hdep hA
      go_simp
      refine (HTC.out W hW).mono ?_; rintro e w5 ⟨bv, kv, rfl, h1, h2, hb5⟩
      exact hK _ _ hb5 ⟨bv, kv, rfl, ownsRow_le h1 hBW, ownsRow_le h2 hBW⟩
     ·intro AA x W hA hW hBW hdep D K hK
      simp only [DepF, nthF] at D
      obtain ⟨⟨bv, kv, e8, h1, h2⟩, -⟩ := D
      have g46 : AA.tmps[46]?.getD undef = .agg (callC t.k bv kv false (t.outN false) (.slice ha h.length hc)) := by rw [← Array.getD_eq_getD_getElem?]; exact e8
      clear hdep hA e8
      go_simp
      refine (HNC.out W hW bv kv h1 h2).mono ?_; rintro e w5 ⟨x9, rfl, ho9, hb5⟩
      exact hK _ _ hb5 ⟨x9, rfl, ho9.le hBW⟩
     ·intro AA x W hA hW hBW hdep D K hK
      simp only [DepF, nthF] at D
      obtain ⟨⟨x9, e9, ho9⟩, -⟩ := D
      have g47 : AA.tmps[47]?.getD undef = .tuple #[x9, .int .i64 0] := by rw [← Array.getD_eq_getD_getElem?]; exact e9
      clear hdep hA e9
      go_simp
      exact hK _ _ (Below.refl _ _) ⟨x9, rfl, ho9⟩
     ·intro AA x W hA hW hBW hdep D K hK
      simp only [DepF, nthF] at D
      obtain ⟨⟨x9, e9, ho9⟩, -⟩ := D
      have g35 : AA.tmps[35]?.getD undef = .tuple #[x9, .int .i64 0] := by rw [← Array.getD_eq_getD_getElem?]; exact e9
      clear hdep hA e9
      go_simp
      exact hK _ _ (Below.refl _ _) ho9
     ·intro AA x W hA hW hBW hdep D K hK
      simp only [DepF, nthF] at D
      obtain ⟨⟨x9, e9, ho9⟩, -⟩ := D
      have g35 : AA.tmps[35]?.getD undef = .tuple #[x9, .int .i64 0] := by rw [← Array.getD_eq_getD_getElem?]; exact e9
      clear hdep hA e9
      go_simp
      exact hK _ _ (Below.refl _ _) rfl
     ·intro AA x W hA hW hBW hdep D K hK
      simp only [DepF, nthF] at D
      obtain ⟨ho9, -⟩ := D
      obtain ⟨x9, hx9⟩ : ∃ x9, AA.tmps.getD 48 undef = x9 := ⟨_, rfl⟩
      rw [hx9] at ho9
      have g48 : AA.tmps[48]?.getD undef = x9 := by rw [← Array.getD_eq_getD_getElem?]; exact hx9
      clear hdep hA hx9
      go_simp
      exact hK _ _ (Below.refl _ _) ho9
    intro x W hW hBW hall
    obtain ⟨-, -, -, -, e1, -⟩ := hall
    change (fun u W => OwnB W0.heap.size W u ND) (x 5) W at e1
    refine thenTail_nil ?_
    simp only [layS, Act.put, List.setIfInBounds_toArray, List.set_cons_zero, List.set_cons_succ]
    generalize x 46 = X46 at *
    generalize x 47 = X47 at *
    generalize x 35 = X35 at *
    generalize x 48 = X48 at *
    generalize x 5 = X5 at *
    have hpW := rowStay HP.out hW
    have c9 : W.cell? ⟨p, 9, none⟩ = some (.slice ha h.length hc) := cell_of_heap hpW 9
    have f9 := frozen_of_row W p 9 _ _ hpW
    have hplW2 : p < W.heap.size := (Array.getElem?_eq_some_iff.1 hpW).1
    have HW := hid hW
    have HE1 := hid e1
    have HPW := hid hpW
    clear hW e1 hpW HSE HTC HNC
    go_upto_region 8 with (fail)
    refine letterW ?_
    intro Y hY
    have hYo : ∀ k, k ≠ p → Y.heap[k]? = W.heap[k]? := fun k hk => by rw [hY]; exact heap_setCell_other _ _ _ _ hk
    have hpY : Y.heap[p]? = some (.cells (strC t (.slice none 0 0) (tk : Int) ov dv) 77 (0, 0)) := by rw [hY]; exact heap_setCell_same W p 9 _ _ _ HPW.out
    have hkY : KB 0 W Y := by rw [hY]; exact KB.of_but ((But.refl p _).set 9 _) (Nat.zero_le _) (Nat.zero_le _) HPW.out (by decide)
    have hkB : KB B W Y := by rw [hY]; exact KB.of_but ((But.refl p _).set 9 _) (by have := HS.out.bp; omega) HS.out.bp HPW.out (by decide)
    have hdnW := ownsRow_same' HDN.out (fun b _ hb => HW.out.block b hb)
    have hdnY := own_keep hdnW (fun k hk => hYo k (own_off hdnW HPW.out (by decide) k hk))
    have hopY := (OpenV.below HOP.out HW.out).off HPW.out (by decide) (by decide) (by decide) hYo
    have hrY : RowsP t (.slice none 0 0) (tk : Int) p B ((List.range m).map (t.openL kz z1 z2 A)) ((List.range m).map (t.cntS A.length)) Y := ⟨ov, dv, vs, hpY, hopY, by simpa using hdnY⟩
    have hB0 : B ≤ W0.heap.size := by have := HS.out.bp; omega
    have hkW : KB B W0 W := KB.of_below HW.out hB0
    have hk9 := (HN.out.k.kb hkW).kb hkB
    have hs9 := (HN.out.s.kb hkW).kb hkB
    have hq9 := (HN.out.q.kb hkW).kb hkB
    have HK9 := hid hk9
    have HS9 := hid hs9
    have HQ9 := hid hq9
    have HKK := hid (hkW.trans hkB)
    have HSET := hid (settle_sok t kz z1 z2 A ND (.slice none 0 0) X5 (tk : Int) p B m Y HS.out.v HS.out.l hk9 hs9 hq9 hrY HS.out.m1 HS.out.m2 ((HE1.out.kb hkY).le hB0) HS.out.bp (by rw [HHN.out]; exact hcn1) HS.out.a HNDL.out HS.out.mb)
    clear hYo hpY hkY hkB hdnW hdnY hopY hrY hkW hk9 hs9 hq9 c9 f9 hplW2 HE1 HPW HP HOP HDN hY HW hBW
    go_wp2_with fail
    refine HSET.out.mono ?_; rintro e Z ⟨rfl, m2, hrZ, hm1, hm2', hkZ⟩
    have SN : StrNow t kz z1 z2 B p tk (A ++ [ND]) [] (.slice none 0 0) m2 Z := ⟨HK9.out.kb hkZ, HS9.out.kb hkZ, HQ9.out.kb hkZ, hrZ, ⟨(fun a ha => by cases ha), .inl ⟨rfl, rfl⟩⟩⟩
    have SM := SN.mem (zs := zs ++ bz.take k) HS.out.v HS.out.l HS.out.bp hm1 hm2' (fun y hy => by
     rcases List.mem_append.1 hy with h8 | h8
     ·exact HS.out.a y h8
     ·rw [List.mem_singleton.1 h8]; exact HNDL.out) HOF2.out
    have hbZ : Below B W0 Z := (HKK.out.trans hkZ).below
    have KEY : ∃ (X : World) (A : List (List Int)) (h : List Int) (hh : Value) (m : Nat) (w1 : World), X = Z ∧ StrMem t kz z1 z2 B p tk (zs ++ bz.take k) A h hh m w1 X ∧ h.length < t.ln ∧ Hold X (.slice xa mm xc) (bz.drop k) ∧ Below B w' X := ⟨Z, _, _, _, _, _, rfl, SM, hl1, hold_low HXQ.out HXB.out hbZ, HBQ.out.trans hbZ⟩
    clear SN SM hbZ HSET hrZ hm1 hm2' hkZ HKK HK9 HS9 HQ9 HN HS HXQ HBQ HOF2 HNDL HHN hB0 hplW hcn1 hq
    go_upto_region 9 with (fail)
    clear HOF
    obtain ⟨W6, A, h, hh, m, w1, e, S, hlt2, hx, hb⟩ := KEY
    subst e
   case' neg =>
    have hq : ((h.length : Int) == t.l) = false := by rw [beq_eq_false_iff_ne]; have := HL.out; omega
    have KEY : ∃ (X : World) (A : List (List Int)) (h : List Int) (hh : Value) (m : Nat) (w1 : World), X = W0 ∧ StrMem t kz z1 z2 B p tk (zs ++ bz.take k) A h hh m w1 X ∧ h.length < t.ln ∧ Hold X (.slice xa mm xc) (bz.drop k) ∧ Below B w' X := ⟨W0, _, _, _, _, _, rfl, hs1, by have := hs1.hl; omega, hx1q, hb1⟩
    clear hs1 hx1q hb1 HH0
    go_upto_region 9 with (fail)
    clear HOF hq hf
    obtain ⟨W6, A, h, hh, m, w1, e, S, hlt2, hx, hb⟩ := KEY
    subst e
   all_goals
    obtain ⟨ov, dv, vs, c, -, -, -, r4⟩ := id S.rows
    obtain ⟨ha, hc, rfl, hh1, hh2⟩ := id S.held.hold.slice
    obtain ⟨n, hnn⟩ : ∃ n, min (t.ln - h.length) mm = n := ⟨_, rfl⟩
    have hl1i : (h.length : Int) < (t.ln : Int) := by omega
    have hofl := S.of.le
    have hmi : min ((t.ln : Int) - (h.length : Int)) (mm : Int) = (n : Int) := by omega
    have hwl : IntKind.i64.wrap t.l = (t.ln : Int) := by rw [hwl]; exact HL.out.symm
    have hlu : (t.ln : Int) ≤ 4294967295 := by have := HL.out; have := HL2.out; omega
    have hws : IntKind.i64.wrap ((t.ln : Int) - (h.length : Int)) = (t.ln : Int) - (h.length : Int) := by rw [IntKind.wrap_i64] <;> omega
    have c9 : W6.cell? ⟨p, 9, none⟩ = some (.slice ha h.length hc) := cell_of_heap r4 9
    have c4 : W6.cell? ⟨p, 4, none⟩ = some (.int .u32 (t.ln : Int)) := by rw [HL.out]; exact cell_of_heap r4 4
    have hpl : p < W6.heap.size := (Array.getElem?_eq_some_iff.1 r4).1
    have HNN := hid hnn
    have HS := hid S
    have HX := hid hx
    have HB := hid hb
    have HLT := hid hlt2
    have HOL := hid hofl
    clear hnn S hx hb hlt2 r4 hofl
    obtain ⟨ln, hln⟩ : ∃ ln, t.ln = ln := ⟨_, rfl⟩
    rw [hln] at hl1 hl1i hmi hwl hlu hws c4
    go_quiet (fail)
    have hbq : Below W6.heap.size W6 (W6.drewN nq) := Below.drewN' nq
    have hs1 := HS.out.below hbq
    have hx1q := HX.out.below hbq
    have hb1 := HB.out.trans (hbq.mono (show B ≤ W6.heap.size by have := HS.out.bp; omega))
    clear HS HX HB hbq c9 c4 hpl
    generalize W6.drewN nq = V6 at *
    clear W6
    obtain ⟨X, hX⟩ : ∃ X, (bz.drop k).take n = X := ⟨_, rfl⟩
    have hn1 : 1 ≤ n ∧ n ≤ mm ∧ h.length + n ≤ ln := by have := HNN.out; omega
    have hXl : X.length = n := by rw [← hX, List.length_take, HMM.out]; omega
    have hX6 : Hold V6 (.slice xa n xc) X := by rw [← hX]; exact hold_take hx1q (by rw [HMM.out]; omega)
    have hs6 := hX6.src
    rw [hXl] at hs6
    obtain ⟨ov, dv, vs, c, -, -, -, r5⟩ := id hs1.rows
    have hw1s : w1.heap.size ≤ V6.heap.size := hs1.but.size
    have hps6 : p < V6.heap.size := (Array.getElem?_eq_some_iff.1 r5).1
    have hofn : h.length + n ≤ 8388608 := by have := HOL.out; have := HTL.out; have := hn1.2.1; have := HMK.out; omega
    obtain ⟨hn1, hn2, hn3⟩ := hn1
    have hn4 : (n : Int) ≤ mm ∧ (n : Int) ≤ xc ∧ 1 ≤ (n : Int) := by omega
    obtain ⟨hn4, hn5, hn6⟩ := hn4
    have HS := hid hs1
    have HO6 := hid hs1.held.2
    have HR6 := hid r5
    have HXX := hid hX
    have HXL := hid hXl
    have HX6 := hid hX6
    have HS6 := hid hs6
    have HX := hid hx1q
    have HB := hid hb1
    have HLN := hid hln
    have HN3 := hid hn3
    clear hs1 r5 hX hXl hX6 hs6 hx1q hb1 hln hn3 hmi hws hwl hlu
    go_upto_region 10 with (fail)
    refine wp_region_otc (n := 9) (fun f W => (f = false → Below V6.heap.size V6 W) ∧ (f = true → W.heap[p]? = some (.cells (strC t (.slice ha h.length hc) (tk : Int) ov dv) 77 (0, 0)) ∧ Spare (fun b => (Value.slice ha h.length hc).ownBlock ≠ some b) V6 W)) 8 [.v 71 (.pointer (some ⟨p, 0, none⟩)), .v 72 (.pointer (some ⟨p, 0, none⟩)), .v 73 (.pointer (some ⟨p, 0, none⟩)), .v 74 (.pointer (some ⟨p, 9, none⟩)), .v 75 (.slice ha h.length hc), .v 76 (.slice xa mm xc), .v 77 (.int .i64 (n : Nat)), .v 78 (.slice xa n xc), .p 79 (fun u W => W.ownsRow w1.heap.size 5 1 u (h.length + n) ((h ++ X).map encB))] (by exact ⟨(fun W W' hb u h => ownsRow_same' h (fun g _ hg => hb.block g hg)), trivial⟩) ⟨fun _ => (Below.refl _ _).drew, fun h => (by cases h)⟩ (fun f W W' h hb => ⟨fun e => (h.1 e).trans (hb.mono (h.1 e).size), fun e => ⟨rowStay (h.2 e).1 hb, (h.2 e).2.trans (Spare.of_below _ hb) (fun _ _ h => h)⟩⟩) ?_ ?_ ?_
    ·repeat' (with_reducible first | exact eachO_nil | refine eachO_cons ?_ ?_)
     all_goals try
      refine .inr ?_
      intro A x W f hA hR hf hdep D K hK
      have a0 := hA.2 0 (by decide)
      conv at a0 => rhs; whnf
      have a1 := hA.2 1 (by decide)
      conv at a1 => rhs; whnf
      have a7 := hA.2 7 (by decide)
      conv at a7 => rhs; whnf
      simp only [DepF, nthF] at D
      clear hdep hA
      go_simp
      exact hK _ _ BR rfl
     any_goals exact .inl rfl
     all_goals refine .inr ?_
     ·intro A x W f hA hR hf hdep _ K hK
      have g74 := gw hA hdep 3 74
      clear hdep hA
      have hf0 : f = false := hf (by kernel_rfl)
      have g0 := rowStay HR6.out (hR.1 hf0)
      have c0 : W.cell? ⟨p, 9, none⟩ = some (.slice ha h.length hc) := cell_of_heap g0 9
      go_simp
      exact hK _ _ BR rfl
    ·intro A x W hA hR hdep K hK
     have g75 := gw hA hdep 4 75
     have g78 := gw hA hdep 7 78
     clear hdep hA
     have hB := hR.1 rfl
     have ho := ownsRow_same' HO6.out (fun g _ hg => hB.block g hg)
     have g0 := rowStay HR6.out hB
     refine wp_append_src2 _ _ 24 rfl w1.heap.size 5 i0 (.int .u8 0) 1 Try.underlying24 hi hz0 hz1 hz2 rfl (.slice ha h.length hc) h.length (h.map encB) g75 ho (.slice xa n xc) n (X.map encB) g78 (HS6.out.below hB) (by unfold maxLen; omega) (by omega) (by have := hB.size; omega) ?_
     intro v' w' h1 h2 h3
     have h4 : w'.heap[p]? = some (.cells (strC t (.slice ha h.length hc) (tk : Int) ov dv) 77 (0, 0)) := (h2.block p (Array.getElem?_eq_some_iff.1 g0).1 (own_ne (ownsRow_le ho (Nat.zero_le _)) g0 (by decide))).trans g0
     rw [← List.map_append] at h1
     exact hK v' w' (fun h => by cases h) ⟨fun h => (by cases h), fun _ => ⟨h4, (Spare.of_below _ hB).trans (Spare.of_grown h2) (fun _ _ h => h)⟩⟩ ⟨.inr (fun _ h => h), .inr (fun _ h => h), .inr (fun _ h => h), .inr (fun _ h => h), .inr (fun _ h => h), .inr (fun _ h => h), .inr (fun _ h => h), .inr (fun _ h => h), .inl rfl, trivial⟩ h1
    intro x W hR hall
    obtain ⟨e79, -⟩ := hall
    change (fun u W => W.ownsRow w1.heap.size 5 1 u (h.length + n) ((h ++ X).map encB)) (x 79) W at e79
    obtain ⟨hr7, hsp7⟩ := hR.2 rfl
    obtain ⟨a3, n3, c3, e83⟩ := own_slice e79
    rw [e83] at e79
    obtain rfl : n3 = h.length + n := own_len e79
    refine thenTail_cons ?_
    simp only [layS, Act.put, List.setIfInBounds_toArray, List.set_cons_zero, List.set_cons_succ, e83]
    clear e83
    have c9 : W.cell? ⟨p, 9, none⟩ = some (.slice ha h.length hc) := cell_of_heap hr7 9
    have f9 := frozen_of_row W p 9 _ _ hr7
    have hps7 : p < W.heap.size := (Array.getElem?_eq_some_iff.1 hr7).1
    have HR7 := hid hr7
    have HO7 := hid e79
    have HSP7 := hid hsp7
    clear hr7 e79 hsp7 hR
    go_wp2_with fail
    refine thenTail_cons ?_
    go_wp2_with fail
    refine thenTail_cons ?_
    go_wp2_with fail
    refine thenTail_nil ?_
    obtain ⟨Y, hY⟩ : ∃ Y, Y = W.setCell ⟨p, 9, none⟩ (.slice a3 (h.length + n) c3) := ⟨_, rfl⟩
    rw [← hY]
    obtain ⟨bb, ob, rfl⟩ := hold_some HX.out (fun e => by have := HMM.out; rw [e] at this; simp at this; omega)
    have hbY : But p W Y := by rw [hY]; exact (But.refl p W).set 9 _
    have hoff := HS.out.off
    have hlow : Below B V6 W := HSP7.out.below (by have := HS.out.bp; omega) (fun k hk e => by have := (hoff k e).1; have := HS.out.bw; omega)
    have hlowY : Below B W Y := hbY.below HS.out.bp (by have := HS.out.bp; omega)
    have hlo := hlow.trans hlowY
    have hbw : But p w1 W := ⟨HSP7.out.os.trans HS.out.but.os, HSP7.out.tape.trans HS.out.but.tape, HSP7.out.output.trans HS.out.but.output, Nat.le_trans hw1s HSP7.out.size, fun g hg hgp => (HSP7.out.block g (by omega) (fun e => by have := (hoff g e).1; omega)).trans (HS.out.but.block g hg hgp)⟩
    have hS9 := HS.out.hold (h' := h ++ X) (zs' := zs ++ bz.take (k + n)) (hv' := .slice a3 (h.length + n) c3) (tk' := tk) (w' := Y) (hbw.trans hbY) (fun ov' dv' e => by
     rw [hY]; exact heap_setCell_same W p 9 _ _ _ ((HR7.out.trans HR6.out.symm).trans e)) ⟨fun a ha => by
      rcases List.mem_append.1 ha with h8 | h8
      ·exact HS.out.held.1 a h8
      ·exact HX6.out.1 a h8, by rw [List.length_append, HXL.out]; exact own_butp HO7.out HR7.out (by decide) hbY⟩ (by rw [List.take_add, HXX.out, ← List.append_assoc]; exact HS.out.of.more X) (by rw [List.length_append, HXL.out]; have := HLN.out; have := HN3.out; omega)
    have hX9 := hold_low HX.out HXB.out hlo
    have HS9 := hid hS9
    have HX9 := hid hX9
    have HB9 := hid (HB.out.trans hlo)
    have hnil : h ++ X ≠ [] := fun e => by
     have h8 := congrArg List.length e
     rw [List.length_append, HXL.out, List.length_nil] at h8
     omega
    have HNIL := hid hnil
    have hd0 : (bz.drop k).drop n = bz.drop (k + n) := List.drop_drop
    have HD0 := hid hd0
    have hkn : k + n ≤ bz.length := by have := HMK.out; omega
    clear hS9 hX9 hnil hd0 hbw hlo hlow hlowY hoff hbY hY c9 f9 HS HX HR7 HO7 HSP7 HR6 HO6
    by_cases hck : n = xc
    case pos =>
     subst hck
     go_wp2_with fail
     refine ⟨⟨k + n, A, h ++ X, _, m, w1, hkn, ?_, fun _ g hg => ?_, HS9.out, fun e => absurd e HNIL.out, HB9.out⟩, by simp [lenV] <;> omega⟩
     ·rw [← HD0.out]; exact hold_drop HX9.out (by have := HMM.out; omega) (by have := HMM.out; omega) (by omega) bb ob rfl (.inr ⟨rfl, rfl⟩)
     ·simp only [Value.ownBlock, Option.some.injEq] at hg
      exact HXB.out (fun e => by have := HMM.out; rw [e] at this; simp at this; omega) g (by rw [← hg]; rfl)
    go_wp2_with fail
    refine ⟨⟨k + n, A, h ++ X, _, m, w1, hkn, ?_, fun _ g hg => ?_, HS9.out, fun e => absurd e HNIL.out, HB9.out⟩, by simp [lenV] <;> omega⟩
    ·rw [← HD0.out]; exact hold_drop HX9.out (by have := HMM.out; omega) (by have := HMM.out; omega) (by omega) bb ob rfl (.inl rfl)
    ·simp only [Value.ownBlock, Option.some.injEq] at hg
     exact HXB.out (fun e => by have := HMM.out; rw [e] at this; simp at this; omega) g (by rw [← hg]; rfl)
  have hkk : k = bz.length := by have := HMK.out; omega
  obtain rfl : mm = 0 := by omega
  rw [hkk, List.take_length] at S h0
  have hle : (zs ++ bz).length = tk := by rw [List.length_append]; exact HTK.out
  have HST := hid (show StrAt t kz z1 z2 B p (zs ++ bz) wr from ⟨⟨A, h, hh, m, w1, by rw [hle]; exact S, h0⟩, by rw [hle]; have := HTK.out; omega⟩)
  have HB := hid hb
  clear S h0 hb hx hxB hle hkk HMM HMK
  go_wp2
  go_ret
  exact ⟨rfl, HST.out, HB.out⟩
end Go.Proofs.Ytchepcilkcdemaa
namespace Go.Proofs.Ytchepcilkcdemaa
open Go.ChangeShapes Go.WideShapes Go.ChangeAt Go.RowKit Go.Joins Go.Shelf Go.Maps
open Go.Lib (hid)
attribute [local irreducible] TreeV.node
theorem TreeV.pn_is {t : TreeV} (hv : t.validE = 0) : (t.pn : Int) = t.p ∧ 2 ≤ t.pn ∧ t.pn ≤ 255 := by
 have h1 := (TreeV.valid_facts hv).2.2.2.2.2.2.1
 have h2 := (TreeV.valid_facts hv).2.2.2.2.2.2.2.1
 unfold TreeV.pn
 omega
theorem TreeV.cntS_zeros {t : TreeV} {s m : Nat} (h : t.cntS s m = 0) : ∀ r, m ≤ r → t.cntS s r = 0 := fun r hr => by
 induction r with
 | zero => obtain rfl : m = 0 := by omega
           exact h
 | succ r ih =>
  by_cases e : m = r + 1
  ·rw [← e]; exact h
  ·exact TreeV.cntS_zero (ih (by omega))
/-- Is a row the root's? -/
theorem TreeV.root_is {t : TreeV} (hv : t.validE = 0) (s : Nat) {r : Nat} (hr : r + 2 ≤ t.pn) : t.rootZ (r + 1) (t.cntS s r + 1) = decide (t.f = 0 ∨ ((r + 1 : Nat) : Int) = t.p - 1 ∨ t.cntS s (r + 1) = 0) := by
 have hp := TreeV.pn_is hv
 have hf := (TreeV.valid_facts hv).2.2.2.2.2.1
 have hfn : t.fn = t.f.toNat := rfl
 refine decide_eq_decide.2 ⟨?_, ?_⟩
 ·rintro (h1 | h1 | h1)
  ·exact .inl h1
  ·exact .inr (.inl h1)
  ·by_cases h0 : t.f = 0
   ·exact .inl h0
   refine .inr (.inr ?_)
   rw [TreeV.cntS_next]
   split
   ·rfl
   ·refine Nat.div_eq_of_lt ?_
    omega
 ·rintro (h1 | h1 | h1)
  ·exact .inl h1
  ·exact .inr (.inl h1)
  ·by_cases h0 : t.f = 0
   ·exact .inl h0
   by_cases h2 : ((r + 1 : Nat) : Int) = t.p - 1
   ·exact .inr (.inl h2)
   refine .inr (.inr ?_)
   rw [TreeV.cntS_next, if_neg (by omega)] at h1
   have h3 := Nat.lt_of_div_eq_zero (show 0 < t.fn by omega) h1
   omega
theorem least_true (P : Nat → Bool) : ∀ n, 1 ≤ n → P n = true → ∃ R, 1 ≤ R ∧ R ≤ n ∧ P R = true ∧ ∀ q, 1 ≤ q → q < R → P q = false := by
 intro n
 induction n using Nat.strongRecOn with
 | _ n ih =>
  intro h1 h2
  by_cases h3 : ∃ q, 1 ≤ q ∧ q < n ∧ P q = true
  ·obtain ⟨q, q1, q2, q3⟩ := h3
   obtain ⟨R, r1, r2, r3, r4⟩ := ih q q2 q1 q3
   exact ⟨R, r1, by omega, r3, r4⟩
  ·refine ⟨n, h1, Nat.le_refl _, h2, fun q q1 q2 => ?_⟩
   cases h4 : P q with
   | false => rfl
   | true => exact absurd ⟨q, q1, q2, h4⟩ h3
theorem TreeV.top_ex {t : TreeV} (hv : t.validE = 0) (s : Nat) : ∃ R, t.topS s R ∧ R + 1 ≤ t.pn := by
 have hp := TreeV.pn_is hv
 obtain ⟨R, r1, r2, r3, r4⟩ := least_true (fun q => t.rootZ q (t.cntS s (q - 1) + 1)) (t.pn - 1) (by omega) (TreeV.rootZ_last (by omega))
 exact ⟨R, ⟨r1, r3, r4⟩, by omega⟩
end Go.Proofs.Ytchepcilkcdemaa
