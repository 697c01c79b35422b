/- ShapeSpots: for every tree, total and place the law returns true. No condition. -/
import Derived.Test.YtcjmjmmajckjhaaShapeS
namespace Go.Proofs.Ytcjmjmmajckjhaa
open Go.ChangeShapes Go.WideShapes Go.ChangeAt Go.RowKit Go.Joins Go.Shelf Go.Maps
attribute [local go_sem] Oper.semAt_some

theorem rows_pos {f p total l : Nat} {L : List Nat} (h : RowsIs f p (lvs total l) L) : ∀ k, k < L.length → 1 ≤ nth L k
  | 0, _ => by rw [h.first]; unfold lvs; omega
  | k + 1, hk => by
    have ih := rows_pos h k (by omega)
    rw [h.next k hk]
    unfold rowNext
    split
    · omega
    · exact cdiv_pos ih
/-- A node's parent. -/
def TreeV.parV (t : TreeV) (total : Nat) (row : Int) (at_ : Nat) : Nat := if t.spotE total row at_ ≠ 0 ∨ (t.spotR total row at_).root = true ∨ nth (t.rowsOf total) (row.toNat + 1) = 1 then 0 else at_ / t.fn
def TreeV.parE (t : TreeV) (total : Nat) (row : Int) (at_ : Nat) : Int := if t.spotE total row at_ ≠ 0 then t.spotE total row at_ else if (t.spotR total row at_).root = true then 6 else 0
theorem SpotV.val_is (s : SpotV) : s.val = .agg #[.int .i64 s.row, .int .u64 s.at_, .int .u64 s.frm, .int .u64 s.to_, .bool s.last, .bool s.root] := rfl
/-- What a node that is there and no root comes to. -/
theorem spot_facts {t : TreeV} (hl : 0 ≤ t.l ∧ t.l ≤ 4294967295) {total : Nat} {row : Int} {at_ : Nat} (h : t.spotE total row at_ = 0) (hr : (t.spotR total row at_).root = false) :
    t.err total = 0 ∧ ∃ k : Nat, row = k ∧ k + 1 < (t.rowsOf total).length ∧ (t.rowsOf total).length ≤ 255 ∧ (nth (t.rowsOf total) (k + 1) ≠ 1 → 2 ≤ t.f ∧ t.f ≤ 255) ∧
      t.spotE total ((k : Int) + 1) 0 = 0 ∧ (t.spotR total ((k : Int) + 1) 0).root = decide (nth (t.rowsOf total) (k + 1) = 1) := by
  by_cases he : t.err total = 0
  · refine ⟨he, ?_⟩
    obtain ⟨hl1, hl2, hln, h0⟩ := TreeV.ok_facts hl he
    have hvf := TreeV.valid_facts h0
    have hR := TreeV.rows_is he
    have hm := hR.most
    have hfn : t.f = (t.fn : Int) := by unfold TreeV.fn; omega
    have hpp : (t.pn : Int) ≤ 255 := by unfold TreeV.pn; omega
    unfold TreeV.spotE at h
    rw [if_neg (by simp [he])] at h
    by_cases hth : t.there total row at_
    · unfold TreeV.spotR at hr
      rw [if_pos ⟨he, hth⟩] at hr
      obtain ⟨z0, z1, z2⟩ := hth
      obtain ⟨k, rfl⟩ : ∃ k : Nat, row = k := ⟨row.toNat, by omega⟩
      rw [Int.toNat_natCast] at hr z1 z2
      have hnr : ¬ (1 ≤ k ∧ nth (t.rowsOf total) k = 1) := by
        intro hc
        unfold TreeV.spot spotIn at hr
        rw [if_pos hc] at hr
        simp at hr
      have hk : k + 1 < (t.rowsOf total).length := by
        have : ¬ k = (t.rowsOf total).length - 1 := fun e => hnr ((hR.root_iff z1).2 e)
        omega
      have hth2 : t.there total ((k : Int) + 1) 0 := by
        have e : ((k : Int) + 1).toNat = k + 1 := by omega
        refine ⟨by omega, by rw [e]; exact hk, by rw [e]; exact rows_pos hR _ hk⟩
      refine ⟨k, rfl, hk, by omega, ?_, ?_, ?_⟩
      · intro h1
        have := (hR.next_or hk h1).2
        omega
      · unfold TreeV.spotE
        rw [if_neg (by simp [he]), if_pos hth2]
      · unfold TreeV.spotR
        rw [if_pos ⟨he, hth2⟩, show ((k : Int) + 1).toNat = k + 1 by omega]
        unfold TreeV.spot spotIn
        by_cases h1 : nth (t.rowsOf total) (k + 1) = 1
        · rw [if_pos ⟨by omega, h1⟩]; simp [h1]
        · rw [if_neg (fun h => h1 h.2)]; split <;> simp [h1]
    · rw [if_neg hth] at h; omega
  · unfold TreeV.spotE at h
    rw [if_pos he] at h; exact absurd h he
theorem parent_any (t : TreeV) (hl : 0 ≤ t.l ∧ t.l ≤ 4294967295) (total : Nat) (ht : (total : Int) ≤ 18446744073709551615) (row : Int) (at_ : Nat) (ha : (at_ : Int) ≤ 18446744073709551615) (w : World) :
    Calls Try.prog 44 #[t.val, .int .u64 total, .int .i64 row, .int .u64 at_] w fun r w' => r = .returned (.tuple #[.int .u64 (t.parV total row at_), .int .i64 (t.parE total row at_)]) ∧ Below w.heap.size w w' := by
  have A1 := Lib.hid (fun w => spot_any t hl total ht row at_ w)
  simp only [SpotV.val_is] at A1
  unfold TreeV.parV TreeV.parE
  by_cases he : t.spotE total row at_ = 0
  · rw [he] at A1
    cases hr : (t.spotR total row at_).root with
    | true =>
      rw [hr] at A1
      rw [if_pos (.inr (.inl rfl)), if_neg (by simp [he]), if_pos rfl]
      exact parent_root t total row at_ A1 w
    | false =>
      rw [hr] at A1
      obtain ⟨he0, k, rfl, hk, hk2, hf, e1, e2⟩ := spot_facts hl he hr
      have A2 := Lib.hid (fun w => spot_any t hl total ht ((k : Int) + 1) 0 w)
      simp only [SpotV.val_is] at A2
      rw [e2] at A2
      rw [Int.toNat_natCast]
      by_cases h1 : nth (t.rowsOf total) (k + 1) = 1
      · rw [decide_eq_true h1] at A2
        rw [if_pos (.inr (.inr h1)), if_neg (by simp [he]), if_neg (by simp)]
        exact parent_none t total k at_ A1 A2 (by omega) w
      · rw [decide_eq_false h1] at A2
        rw [if_neg (by simp [he, h1]), if_neg (by simp [he]), if_neg (by simp)]
        exact parent_ok t total k at_ A1 A2 (by omega) (hf h1) ha w
  · rw [if_pos (.inl he), if_pos he]
    exact parent_err t total row at_ A1 (by rw [bne_iff_ne]; exact he) w
theorem refParent_any (t : TreeV) (hl : 0 ≤ t.l ∧ t.l ≤ 4294967295) (total : Nat) (ht : (total : Int) ≤ 18446744073709551615) (row : Int) (at_ : Nat) (ha : (at_ : Int) ≤ 18446744073709551615) (w : World) :
    Calls Try.prog 45 #[t.val, .int .u64 total, .int .i64 row, .int .u64 at_] w fun r w' => r = .returned (.tuple #[.int .u64 (t.parV total row at_), .int .i64 (t.parE total row at_)]) ∧ Below w.heap.size w w' := by
  have A1 := Lib.hid (fun w => refSpot_any t hl total ht row at_ w)
  simp only [SpotV.val_is] at A1
  unfold TreeV.parV TreeV.parE
  by_cases he : t.spotE total row at_ = 0
  · rw [he] at A1
    cases hr : (t.spotR total row at_).root with
    | true =>
      rw [hr] at A1
      rw [if_pos (.inr (.inl rfl)), if_neg (by simp [he]), if_pos rfl]
      exact refParent_root t total row at_ A1 w
    | false =>
      rw [hr] at A1
      obtain ⟨he0, k, rfl, hk, hk2, hf, -, -⟩ := spot_facts hl he hr
      have HR := Lib.hid (fun w => refRows_ok t hl total ht he0 w)
      rw [Int.toNat_natCast]
      by_cases h1 : nth (t.rowsOf total) (k + 1) = 1
      · rw [if_pos (.inr (.inr h1)), if_neg (by simp [he]), if_neg (by simp)]
        exact refParent_none (L := t.rowsOf total) t total k at_ A1 HR hk hk2 (by rw [h1]; rfl) w
      · rw [if_neg (by simp [he, h1]), if_neg (by simp [he]), if_neg (by simp)]
        exact refParent_ok (L := t.rowsOf total) t total k at_ A1 HR hk hk2 (by rw [beq_eq_false_iff_ne]; omega) (hf h1) ha w
  · rw [if_pos (.inl he), if_pos he]
    exact refParent_err t total row at_ A1 (by rw [bne_iff_ne]; exact he) w
set_option maxRecDepth 100000 in
theorem shapeSpots_walk (t : TreeV) (hl : 0 ≤ t.l ∧ t.l ≤ 4294967295) (total : Nat) (ht : (total : Int) ≤ 18446744073709551615) (row : Int) (at_ : Nat) (ha : (at_ : Int) ≤ 18446744073709551615) (w : World) :
    Calls Try.prog 12 #[t.val, .int .u64 total, .int .i64 row, .int .u64 at_] w (Trues w) := by
  have H1 := Lib.hid (fun w => spot_any t hl total ht row at_ w)
  have H2 := Lib.hid (fun w => refSpot_any t hl total ht row at_ w)
  have H3 := Lib.hid (fun w => parent_any t hl total ht row at_ ha w)
  have H4 := Lib.hid (fun w => refParent_any t hl total ht row at_ ha w)
  simp only [SpotV.val_is] at H1 H2
  generalize t.spotR total row at_ = s at *
  generalize t.spotE total row at_ = e at *
  generalize t.parV total row at_ = a at *
  generalize t.parE total row at_ = b at *
  obtain ⟨z0, z1, z2, z3, z4, z5⟩ := s
  simp only [] at H1 H2
  have q1 : (e == e) = true := by simp
  have q2 : (b == b) = true := by simp
  have q3 : ((a : Int) == (a : Int)) = true := by simp
  unfold TreeV.val at *
  go_enter Try.func12, Try.ntmps12
  go_wp2_with fail
  refine (H1.out _).mono ?_; rintro r w1 ⟨rfl, hb1⟩
  have hs1 : w.heap.size < w1.heap.size := by have := hb1.size; simp at this; omega
  obtain ⟨hc1, -⟩ := bcell hb1
  go_wp2_with fail
  refine (H2.out _).mono ?_; rintro r w2 ⟨rfl, hb2⟩
  have hs2 := hb2.size
  simp at hs2
  have k2 : w.heap.size < w2.heap.size := by omega
  have m2 : w1.heap.size < w2.heap.size := by omega
  have hB2 : Below w.heap.size w w2 := ((below_alloc_then _ hb1).alloc (by omega) _).trans (hb2.mono (by simp; omega))
  obtain ⟨hc2, -⟩ := bcell hb2
  clear hb2 hb1
  go_wp2_with fail
  refine (H3.out _).mono ?_; rintro r w3 ⟨rfl, hb3⟩
  have hs3 := hb3.size
  simp at hs3
  have k3 : w.heap.size < w3.heap.size := by omega
  have m3 : w1.heap.size < w3.heap.size := by omega
  have n3 : w2.heap.size < w3.heap.size := by omega
  have hB3 : Below w.heap.size w w3 := (hB2.alloc (by omega) _).trans (hb3.mono (by simp; omega))
  obtain ⟨hc3, -⟩ := bcell hb3
  clear hb3
  go_wp2_with fail
  refine (H4.out _).mono ?_; rintro r w4 ⟨rfl, hb4⟩
  have hs4 := hb4.size
  have k4 : w.heap.size < w4.heap.size := by omega
  have m4 : w1.heap.size < w4.heap.size := by omega
  have n4 : w2.heap.size < w4.heap.size := by omega
  have hB4 : Below w.heap.size w w4 := hB3.trans (hb4.mono (by omega))
  obtain ⟨hc4, -⟩ := bcell hb4
  clear hb4
  go_wp2_with fail
  refine (awake_any _).mono ?_; rintro e w5 ⟨rfl, hb5⟩
  go_wp2
  go_ret
  exact ⟨rfl, hB4.trans (hb5.mono (by omega))⟩

set_option maxRecDepth 100000 in
theorem shapeSpots_call {H : Type} (enc : TypeId × Value → H) (W : World) (base : Nat) (args : Array Value) (ds : List (DataW H)) (p : List MemPlace)
    (hval : ∀ (j : Nat) t v, Try.f12.params[j]? = some t → args[j]? = some v → Value.okWide Try.prog W .any base t v)
    (hA : DataW.TrodAll enc Try.prog W 0 (fun _ => true) true Try.f12.params.toList args.toList ds p) (hlt : ∀ x ∈ p, x.block < W.heap.size)
    (_ : (DataW.weightsEach Try.prog Try.f12.params.toList ds).all (· ≤ reachBytes) = true) :
    Calls Try.prog 12 args W (Trues W) := by
  rw [Try.params12] at hA hval
  obtain ⟨v0, v1, v2, v3, d0, d1, d2, d3, p0, p1, p2, p3, rfl, rfl, rfl, h0, h1, h2, h3⟩ := trodAll_four hA
  obtain ⟨t, kt, st, zt, rfl, ht⟩ := open_tree (hval 0 32 v0 rfl rfl) h0 (fun x hx => hlt x (by simp [hx]))
  obtain ⟨total', rfl, htotal⟩ := open_u64 (hval 1 33 v1 rfl rfl) h1
  obtain ⟨total, rfl⟩ : ∃ n : Nat, total' = n := ⟨total'.toNat, by omega⟩
  obtain ⟨row, rfl, hrow⟩ := open_i64 (hval 2 3 v2 rfl rfl) h2
  obtain ⟨at_', rfl, hat_⟩ := open_u64 (hval 3 33 v3 rfl rfl) h3
  obtain ⟨at_, rfl⟩ : ∃ n : Nat, at_' = n := ⟨at_'.toNat, by omega⟩
  exact shapeSpots_walk t ht.l total htotal.2 row at_ hat_.2 W

set_option maxRecDepth 100000 in
theorem shapeSpots_lifted (os : Os) (started : os.Started) (H : Type) (enc : TypeId × Value → H) :
    ReturnsInHanded {} Try.checked os 12 .any (Rows.shapeSpotsSpec.pre6 enc Try.prog Try.f12 Rows.shapeSpotsRow.domain false) (Rows.shapeSpotsSpec.post enc Try.prog Try.f12 false true false false) := by
  refine returnsInHanded_of_change_sized (C := Try.checked) own started (by kernel_rfl) Try.func12
    (ChangeSpec.witness6 (enc := enc) (C := Try.checked) false ⟨#[], #[.agg #[.int .i64 0, .int .i64 0, .int .i64 0, .int .i64 0, .int .u32 0, .int .i64 0, .slice none 0 0, .slice none 0 0, .slice none 0 0], .int .u64 0, .int .i64 0, .int .u64 0], []⟩ 40 (by kernel_rfl) (by kernel_rfl) (by kernel_rfl) (by kernel_rfl)) ?_
  intro W base args ds gs before hval0 hW hcnd hz _
  have hW' := hW
  obtain ⟨p, q, hA0, hV, rfl, hfz, hnd⟩ := hW
  have hA : DataW.TrodAll enc Try.prog W 0 (fun _ => true) true Try.f12.params.toList args.toList ds p := hA0
  obtain ⟨rfl, rfl⟩ := trodVars_none hV
  have hz' : (DataW.weightsEach Try.prog Try.f12.params.toList ds).all (· ≤ reachBytes) = true := by
    have e1 : Try.f12.params.toList ++ Rows.shapeSpotsSpec.plain.varTypes Try.prog = Try.f12.params.toList := List.append_nil _
    rw [← e1, ← List.append_nil ds]
    exact hz
  refine (shapeSpots_call enc W base args ds p hval0 hA (fun x hx => hW'.lt x (by simpa using hx)) hz').mono fun e W' h => ⟨_, h.1, ?_⟩
  refine post_of_trues laidOut _ rfl Try.underlying4 (by decide +kernel) rfl hW' ?_ h.2
  have hA' := hA
  rw [Try.params12] at hA'
  obtain ⟨v0, v1, v2, v3, d0, d1, d2, d3, p0, p1, p2, p3, rfl, rfl, _⟩ := trodAll_four hA'
  rfl

theorem shapeSpots_holds : Rows.ShapeSpotsSaid :=
  OpenClaim.holds_of_wide 12 Try.f12 rfl rfl rfl rfl rfl rfl rfl ⟨rfl, rfl, rfl, rfl, rfl⟩ rfl rfl rfl rfl rfl (by kernel_rfl) Try.func12 (by kernel_rfl)
    (of_decide_eq_true (by kernel_rfl)) (by unfold Func.isWrapper; first | (rw [if_pos (by decide +kernel)]; kernel_rfl) | (rw [if_neg (by decide +kernel)]; exact ⟨rfl, rfl⟩))
    (fun os started H enc _ => shapeSpots_lifted os started H enc)
#print axioms shapeSpots_holds
end Go.Proofs.Ytcjmjmmajckjhaa
