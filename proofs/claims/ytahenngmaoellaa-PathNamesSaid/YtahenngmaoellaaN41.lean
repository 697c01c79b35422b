/- The parents of nodes, case by case. No condition. -/
import Derived.Test.YtahenngmaoellaaN36
import Derived.Lib.SmallJoins
import Derived.Maps.AppendAt
import Derived.BigQuiet
import Derived.Deep.QuietTactic
set_option linter.all false
set_option maxRecDepth 100000
set_option maxHeartbeats 8000000
namespace Go.Proofs.Ytahenngmaoellaa
open Go.ChangeShapes Go.WideShapes Go.ChangeAt Go.RowKit Go.Joins Go.Shelf Go.Maps
open Go.Lib (hid)
attribute [local go_sem] Oper.semAt_some
theorem parent_err (t : TreeV) (total : Nat) (row : Int) (at_ : Nat) {z0 : Int} {z1 z2 z3 : Int} {z4 : Bool} {z5 : Bool} {e : Int} (H1 : Hid (∀ w, Calls Try.prog 11 #[t.val, .int .u64 total, .int .i64 row, .int .u64 at_] w fun r w' => r = .returned (.tuple #[.agg #[.int .i64 z0, .int .u64 z1, .int .u64 z2, .int .u64 z3, .bool z4, .bool z5], .int .i64 e]) ∧ Below w.heap.size w w')) (he : (e != 0) = true) (w : World) :
    Calls Try.prog 12 #[t.val, .int .u64 total, .int .i64 row, .int .u64 at_] w fun r w' => r = .returned (.tuple #[.int .u64 0, .int .i64 e]) ∧ Below w.heap.size w w' := by
  unfold TreeV.val at *
  go_enter Try.func12, Try.ntmps12
  go_wp2_with fail
  refine (H1.out _).mono ?_; rintro r w1 ⟨rfl, hb1⟩
  obtain ⟨hc, hf1⟩ := bcell hb1
  have hs1 := hb1.size
  simp at hs1
  have k0 : w.heap.size < w1.heap.size := by omega
  have hBW : Below w.heap.size w w1 := below_alloc_then _ hb1
  clear hb1
  go_wp2
  refine bodyPost_ret (results_tmp2 (fn := Try.f12) (t := 8) (u := 9) rfl _ _ _) rfl ⟨rfl, ?_⟩
  first | exact hBW | exact hBW.alloc (by omega) _
theorem parent_root (t : TreeV) (total : Nat) (row : Int) (at_ : Nat) {z0 : Int} {z1 z2 z3 : Int} {z4 : Bool} (H1 : Hid (∀ w, Calls Try.prog 11 #[t.val, .int .u64 total, .int .i64 row, .int .u64 at_] w fun r w' => r = .returned (.tuple #[.agg #[.int .i64 z0, .int .u64 z1, .int .u64 z2, .int .u64 z3, .bool z4, .bool true], .int .i64 0]) ∧ Below w.heap.size w w')) (w : World) :
    Calls Try.prog 12 #[t.val, .int .u64 total, .int .i64 row, .int .u64 at_] w fun r w' => r = .returned (.tuple #[.int .u64 0, .int .i64 6]) ∧ Below w.heap.size w w' := by
  unfold TreeV.val at *
  go_enter Try.func12, Try.ntmps12
  go_wp2_with fail
  refine (H1.out _).mono ?_; rintro r w1 ⟨rfl, hb1⟩
  obtain ⟨hc, hf1⟩ := bcell hb1
  have hs1 := hb1.size
  simp at hs1
  have k0 : w.heap.size < w1.heap.size := by omega
  have hBW : Below w.heap.size w w1 := below_alloc_then _ hb1
  clear hb1
  go_wp2
  refine bodyPost_ret (results_tmp2 (fn := Try.f12) (t := 8) (u := 9) rfl _ _ _) rfl ⟨rfl, ?_⟩
  first | exact hBW | exact hBW.alloc (by omega) _
theorem parent_none (t : TreeV) (total : Nat) (row : Int) (at_ : Nat) {z0 : Int} {z1 z2 z3 : Int} {z4 : Bool} {y0 : Int} {y1 y2 y3 : Int} {y4 : Bool} {y6 : Int} (H1 : Hid (∀ w, Calls Try.prog 11 #[t.val, .int .u64 total, .int .i64 row, .int .u64 at_] w fun r w' => r = .returned (.tuple #[.agg #[.int .i64 z0, .int .u64 z1, .int .u64 z2, .int .u64 z3, .bool z4, .bool false], .int .i64 0]) ∧ Below w.heap.size w w')) (H2 : Hid (∀ w, Calls Try.prog 11 #[t.val, .int .u64 total, .int .i64 (row + 1), .int .u64 0] w fun r w' => r = .returned (.tuple #[.agg #[.int .i64 y0, .int .u64 y1, .int .u64 y2, .int .u64 y3, .bool y4, .bool true], .int .i64 y6]) ∧ Below w.heap.size w w')) (hr : 0 ≤ row ∧ row ≤ 254) (w : World) :
    Calls Try.prog 12 #[t.val, .int .u64 total, .int .i64 row, .int .u64 at_] w fun r w' => r = .returned (.tuple #[.int .u64 0, .int .i64 0]) ∧ Below w.heap.size w w' := by
  unfold TreeV.val at *
  go_enter Try.func12, Try.ntmps12
  go_wp2_with fail
  refine (H1.out _).mono ?_; rintro r w1 ⟨rfl, hb1⟩
  obtain ⟨hc, hf1⟩ := bcell hb1
  have hs1 := hb1.size
  simp at hs1
  have k0 : w.heap.size < w1.heap.size := by omega
  have hBW : Below w.heap.size w w1 := below_alloc_then _ hb1
  clear hb1
  go_wp2_with fail
  refine (H2.out _).mono ?_; rintro r w2 ⟨rfl, hb2⟩
  have hs2 := hb2.size
  simp at hs2
  have k2 : w.heap.size < w2.heap.size := by omega
  obtain ⟨hc2, hf2⟩ := bcell hb2
  have hBW2 : Below w.heap.size w w2 := (hBW.alloc (by omega) _).trans (hb2.mono (by simp; omega))
  clear hb2
  go_wp2
  refine bodyPost_ret (results_tmp2 (fn := Try.f12) (t := 8) (u := 9) rfl _ _ _) rfl ⟨rfl, ?_⟩
  first | exact hBW2 | exact hBW2.alloc (by omega) _
theorem parent_ok (t : TreeV) (total : Nat) (row : Int) (at_ : Nat) {z0 : Int} {z1 z2 z3 : Int} {z4 : Bool} {y0 : Int} {y1 y2 y3 : Int} {y4 : Bool} {y6 : Int} (H1 : Hid (∀ w, Calls Try.prog 11 #[t.val, .int .u64 total, .int .i64 row, .int .u64 at_] w fun r w' => r = .returned (.tuple #[.agg #[.int .i64 z0, .int .u64 z1, .int .u64 z2, .int .u64 z3, .bool z4, .bool false], .int .i64 0]) ∧ Below w.heap.size w w')) (H2 : Hid (∀ w, Calls Try.prog 11 #[t.val, .int .u64 total, .int .i64 (row + 1), .int .u64 0] w fun r w' => r = .returned (.tuple #[.agg #[.int .i64 y0, .int .u64 y1, .int .u64 y2, .int .u64 y3, .bool y4, .bool false], .int .i64 y6]) ∧ Below w.heap.size w w')) (hr : 0 ≤ row ∧ row ≤ 254) (hf : 2 ≤ t.f ∧ t.f ≤ 255) (ha : (at_ : Int) ≤ 18446744073709551615) (w : World) :
    Calls Try.prog 12 #[t.val, .int .u64 total, .int .i64 row, .int .u64 at_] w fun r w' => r = .returned (.tuple #[.int .u64 (at_ / t.fn : Nat), .int .i64 0]) ∧ Below w.heap.size w w' := by
  have hd0 : (t.f == 0) = false := by rw [beq_eq_false_iff_ne]; omega
  have hfn : t.f = (t.fn : Int) := by unfold TreeV.fn; omega
  have hq : ((at_ / t.fn : Nat) : Int) = (at_ : Int) / t.f := by rw [hfn]; exact Int.natCast_ediv at_ t.fn
  have hq2 := Nat.div_le_self at_ t.fn
  have e3 : (at_ : Int) / t.f ≤ 18446744073709551615 := by rw [← hq]; omega
  have e4 : 0 ≤ (at_ : Int) / t.f := by rw [← hq]; exact Int.natCast_nonneg _
  have HQ := hid hq
  clear hq hfn hq2
  unfold TreeV.val at *
  go_enter Try.func12, Try.ntmps12
  go_wp2_with fail
  refine (H1.out _).mono ?_; rintro r w1 ⟨rfl, hb1⟩
  obtain ⟨hc, hf1⟩ := bcell hb1
  have hs1 := hb1.size
  simp at hs1
  have k0 : w.heap.size < w1.heap.size := by omega
  have hBW : Below w.heap.size w w1 := below_alloc_then _ hb1
  clear hb1
  go_wp2_with fail
  refine (H2.out _).mono ?_; rintro r w2 ⟨rfl, hb2⟩
  have hs2 := hb2.size
  simp at hs2
  have k2 : w.heap.size < w2.heap.size := by omega
  obtain ⟨hc2, hf2⟩ := bcell hb2
  have hBW2 : Below w.heap.size w w2 := (hBW.alloc (by omega) _).trans (hb2.mono (by simp; omega))
  clear hb2
  go_wp2
  refine bodyPost_ret (results_tmp2 (fn := Try.f12) (t := 8) (u := 9) rfl _ _ _) rfl ⟨by rw [HQ.out]; rfl, ?_⟩
  first | exact hBW2 | exact hBW2.alloc (by omega) _
theorem rows_pos {f p total l : Nat} {L : List Nat} (h : RowsIs f p (lvs total l) L) : ∀ k, k < L.length → 1 ≤ nth L k
  | 0, _ => by rw [h.first]; unfold lvs; omega
  | k + 1, hk => by
    have ih := rows_pos h k (by omega)
    rw [h.next k hk]
    unfold rowNext
    split
    · omega
    · exact cdiv_pos ih
/-- A node's parent. -/
def TreeV.parV (t : TreeV) (total : Nat) (row : Int) (at_ : Nat) : Nat := if t.spotE total row at_ ≠ 0 ∨ (t.spotR total row at_).root = true ∨ nth (t.rowsOf total) (row.toNat + 1) = 1 then 0 else at_ / t.fn
def TreeV.parE (t : TreeV) (total : Nat) (row : Int) (at_ : Nat) : Int := if t.spotE total row at_ ≠ 0 then t.spotE total row at_ else if (t.spotR total row at_).root = true then 6 else 0
theorem SpotV.val_is (s : SpotV) : s.val = .agg #[.int .i64 s.row, .int .u64 s.at_, .int .u64 s.frm, .int .u64 s.to_, .bool s.last, .bool s.root] := rfl
/-- What a node that is there and no root comes to. -/
theorem spot_facts {t : TreeV} (hl : 0 ≤ t.l ∧ t.l ≤ 4294967295) {total : Nat} {row : Int} {at_ : Nat} (h : t.spotE total row at_ = 0) (hr : (t.spotR total row at_).root = false) :
    t.err total = 0 ∧ ∃ k : Nat, row = k ∧ k + 1 < (t.rowsOf total).length ∧ (t.rowsOf total).length ≤ 255 ∧ (nth (t.rowsOf total) (k + 1) ≠ 1 → 2 ≤ t.f ∧ t.f ≤ 255) ∧
      t.spotE total ((k : Int) + 1) 0 = 0 ∧ (t.spotR total ((k : Int) + 1) 0).root = decide (nth (t.rowsOf total) (k + 1) = 1) := by
  by_cases he : t.err total = 0
  · refine ⟨he, ?_⟩
    obtain ⟨hl1, hl2, hln, h0⟩ := TreeV.ok_facts hl he
    have hvf := TreeV.valid_facts h0
    have hR := TreeV.rows_is he
    have hm := hR.most
    have hfn : t.f = (t.fn : Int) := by unfold TreeV.fn; omega
    have hpp : (t.pn : Int) ≤ 255 := by unfold TreeV.pn; omega
    unfold TreeV.spotE at h
    rw [if_neg (by simp [he])] at h
    by_cases hth : t.there total row at_
    · unfold TreeV.spotR at hr
      rw [if_pos ⟨he, hth⟩] at hr
      obtain ⟨z0, z1, z2⟩ := hth
      obtain ⟨k, rfl⟩ : ∃ k : Nat, row = k := ⟨row.toNat, by omega⟩
      rw [Int.toNat_natCast] at hr z1 z2
      have hnr : ¬ (1 ≤ k ∧ nth (t.rowsOf total) k = 1) := by
        intro hc
        unfold TreeV.spot spotIn at hr
        rw [if_pos hc] at hr
        simp at hr
      have hk : k + 1 < (t.rowsOf total).length := by
        have : ¬ k = (t.rowsOf total).length - 1 := fun e => hnr ((hR.root_iff z1).2 e)
        omega
      have hth2 : t.there total ((k : Int) + 1) 0 := by
        have e : ((k : Int) + 1).toNat = k + 1 := by omega
        refine ⟨by omega, by rw [e]; exact hk, by rw [e]; exact rows_pos hR _ hk⟩
      refine ⟨k, rfl, hk, by omega, ?_, ?_, ?_⟩
      · intro h1
        have := (hR.next_or hk h1).2
        omega
      · unfold TreeV.spotE
        rw [if_neg (by simp [he]), if_pos hth2]
      · unfold TreeV.spotR
        rw [if_pos ⟨he, hth2⟩, show ((k : Int) + 1).toNat = k + 1 by omega]
        unfold TreeV.spot spotIn
        by_cases h1 : nth (t.rowsOf total) (k + 1) = 1
        · rw [if_pos ⟨by omega, h1⟩]; simp [h1]
        · rw [if_neg (fun h => h1 h.2)]; split <;> simp [h1]
    · rw [if_neg hth] at h; omega
  · unfold TreeV.spotE at h
    rw [if_pos he] at h; exact absurd h he
theorem parent_any (t : TreeV) (hl : 0 ≤ t.l ∧ t.l ≤ 4294967295) (total : Nat) (ht : (total : Int) ≤ 18446744073709551615) (row : Int) (at_ : Nat) (ha : (at_ : Int) ≤ 18446744073709551615) (w : World) :
    Calls Try.prog 12 #[t.val, .int .u64 total, .int .i64 row, .int .u64 at_] w fun r w' => r = .returned (.tuple #[.int .u64 (t.parV total row at_), .int .i64 (t.parE total row at_)]) ∧ Below w.heap.size w w' := by
  have A1 := hid (fun w => spot_any t hl total ht row at_ w)
  simp only [SpotV.val_is] at A1
  unfold TreeV.parV TreeV.parE
  by_cases he : t.spotE total row at_ = 0
  · rw [he] at A1
    cases hr : (t.spotR total row at_).root with
    | true =>
      rw [hr] at A1
      rw [if_pos (.inr (.inl rfl)), if_neg (by simp [he]), if_pos rfl]
      exact parent_root t total row at_ A1 w
    | false =>
      rw [hr] at A1
      obtain ⟨he0, k, rfl, hk, hk2, hf, e1, e2⟩ := spot_facts hl he hr
      have A2 := hid (fun w => spot_any t hl total ht ((k : Int) + 1) 0 w)
      simp only [SpotV.val_is] at A2
      rw [e2] at A2
      rw [Int.toNat_natCast]
      by_cases h1 : nth (t.rowsOf total) (k + 1) = 1
      · rw [decide_eq_true h1] at A2
        rw [if_pos (.inr (.inr h1)), if_neg (by simp [he]), if_neg (by simp)]
        exact parent_none t total k at_ A1 A2 (by omega) w
      · rw [decide_eq_false h1] at A2
        rw [if_neg (by simp [he, h1]), if_neg (by simp [he]), if_neg (by simp)]
        exact parent_ok t total k at_ A1 A2 (by omega) (hf h1) ha w
  · rw [if_pos (.inl he), if_pos he]
    exact parent_err t total row at_ A1 (by rw [bne_iff_ne]; exact he) w
end Go.Proofs.Ytahenngmaoellaa
namespace Go.Proofs.Ytahenngmaoellaa
open Go.ChangeShapes Go.WideShapes Go.ChangeAt Go.RowKit Go.Joins Go.Shelf Go.Maps
open Go.Lib (hid)
/-- A node that is there. -/
theorem spot_there' {t : TreeV} {total k at_ : Nat} (he : t.err total = 0) (hk : k < (t.rowsOf total).length) (ha : at_ < nth (t.rowsOf total) k) :
    t.spotE total k at_ = 0 ∧ t.spotR total k at_ = spotIn t.fn t.ln total (t.rowsOf total) k at_ := by
  have hth : t.there total k at_ := ⟨by omega, by rw [Int.toNat_natCast]; exact hk, by rw [Int.toNat_natCast]; exact ha⟩
  unfold TreeV.spotE TreeV.spotR
  rw [if_neg (by simp [he]), if_pos hth, if_pos ⟨he, hth⟩, Int.toNat_natCast]
  exact ⟨rfl, rfl⟩
/-- The place, in each row, of what lies above a leaf. -/
def wayA (f : Nat) (L : List Nat) (leaf : Nat) : Nat → Nat
  | 0 => leaf
  | k + 1 => if nth L (k + 1) = 1 then 0 else wayA f L leaf k / f
theorem parent_lt {f p total l : Nat} {L : List Nat} (h : RowsIs f p (lvs total l) L) {k at_ : Nat} (hk : k + 1 < L.length) (ha : at_ < nth L k) : (if nth L (k + 1) = 1 then 0 else at_ / f) < nth L (k + 1) := by
  by_cases h1 : nth L (k + 1) = 1
  · rw [if_pos h1]; omega
  · rw [if_neg h1]
    obtain ⟨e, hf⟩ := h.next_or hk h1
    rw [e]
    rcases Nat.lt_or_ge (at_ / f) (cdiv (nth L k) f) with h' | h'
    · exact h'
    · have := cdiv_ge (by omega) h'
      have d1 := Nat.div_add_mod at_ f
      rw [Nat.mul_comm] at this
      omega
theorem wayA_lt {f p total l : Nat} {L : List Nat} (h : RowsIs f p (lvs total l) L) {leaf : Nat} (hl : leaf < nth L 0) : ∀ k, k < L.length → wayA f L leaf k < nth L k
  | 0, _ => hl
  | k + 1, hk => parent_lt h hk (wayA_lt h hl k (by omega))
/-- The spot of row k on a leaf's way. -/
def wayS (t : TreeV) (total leaf k : Nat) : SpotV := spotIn t.fn t.ln total (t.rowsOf total) k (wayA t.fn (t.rowsOf total) leaf k)
theorem spotIn_rowat (f l total : Nat) (L : List Nat) (row at_ : Nat) : (spotIn f l total L row at_).row = row ∧ (spotIn f l total L row at_).at_ = at_ ∧ (spotIn f l total L row at_).root = decide (1 ≤ row ∧ nth L row = 1) := by
  unfold spotIn
  by_cases h1 : 1 ≤ row ∧ nth L row = 1
  · rw [if_pos h1]; exact ⟨rfl, rfl, (decide_eq_true h1).symm⟩
  · rw [if_neg h1]
    split <;> exact ⟨rfl, rfl, (decide_eq_false h1).symm⟩
/-- All of the way's steps at once: what Spot and Parent answer on it. -/
theorem way_step {t : TreeV} {total : Nat} {leaf : Nat} (he : t.err total = 0) (hl : leaf < nth (t.rowsOf total) 0) {k : Nat} (hk : k < (t.rowsOf total).length) :
    t.spotE total k (wayA t.fn (t.rowsOf total) leaf k) = 0 ∧ t.spotR total k (wayA t.fn (t.rowsOf total) leaf k) = wayS t total leaf k ∧ (wayS t total leaf k).row = k ∧ (wayS t total leaf k).at_ = wayA t.fn (t.rowsOf total) leaf k ∧
      (wayS t total leaf k).root = decide (k = (t.rowsOf total).length - 1) ∧ (k ≠ (t.rowsOf total).length - 1 → t.parV total k (wayA t.fn (t.rowsOf total) leaf k) = wayA t.fn (t.rowsOf total) leaf (k + 1)) := by
  have hR := TreeV.rows_is he
  have ha := wayA_lt hR hl k hk
  obtain ⟨s1, s2⟩ := spot_there' he hk ha
  obtain ⟨r1, r2, r3⟩ := spotIn_rowat t.fn t.ln total (t.rowsOf total) k (wayA t.fn (t.rowsOf total) leaf k)
  have hroot : decide (1 ≤ k ∧ nth (t.rowsOf total) k = 1) = decide (k = (t.rowsOf total).length - 1) := by
    rw [decide_eq_decide]; exact hR.root_iff hk
  refine ⟨s1, s2, r1, r2, r3.trans hroot, fun hne => ?_⟩
  have hr0 : (t.spotR total k (wayA t.fn (t.rowsOf total) leaf k)).root = false := by
    rw [s2, r3, hroot, decide_eq_false hne]
  unfold TreeV.parV
  rw [Int.toNat_natCast]
  by_cases h1 : nth (t.rowsOf total) (k + 1) = 1
  · rw [if_pos (.inr (.inr h1))]
    show 0 = if nth (t.rowsOf total) (k + 1) = 1 then 0 else _
    rw [if_pos h1]
  · rw [if_neg (by simp [s1, hr0, h1])]
    show _ = if nth (t.rowsOf total) (k + 1) = 1 then 0 else _
    rw [if_neg h1]
end Go.Proofs.Ytahenngmaoellaa
namespace Go.Proofs.Ytahenngmaoellaa
open Go.ChangeShapes Go.WideShapes Go.ChangeAt Go.RowKit Go.Joins Go.Shelf Go.Maps
open Go.Lib (hid)
attribute [local go_sem] Oper.semAt_some
def SpotV.cellsL (s : SpotV) : List Value := [.int .i64 s.row, .int .u64 s.at_, .int .u64 s.frm, .int .u64 s.to_, .bool s.last, .bool s.root]
def sliceLen : Value → Nat
  | .slice _ n _ => n
  | _ => 0
theorem pOwnsRow_same' {W W' : World} {base : Nat} {e : TypeId} {size : Nat} {v : Value} {n : Nat} {xs : List Value} (h : W.ownsRow base e size v n xs) (hb : ∀ g, base ≤ g → g < W.heap.size → W'.heap[g]? = W.heap[g]?) : W'.ownsRow base e size v n xs := by
  refine ⟨h.1, ?_⟩
  rcases h.2 with h2 | ⟨g, cap, cur, h1, h2, h3, h4⟩
  · exact .inl h2
  · exact .inr ⟨g, cap, cur, h1, h2, (hb g h2 (Array.getElem?_eq_some_iff.1 h3).1).trans h3, h4⟩
theorem cells6 {W : World} {b : Nat} {a0 a1 a2 a3 a4 a5 : Value} {T : TypeId} (h : W.heap[b]? = some (Obj.cells #[a0, a1, a2, a3, a4, a5] T (0, 0))) :
    W.cell? ⟨b, 0, none⟩ = some a0 ∧ W.cell? ⟨b, 1, none⟩ = some a1 ∧ W.cell? ⟨b, 2, none⟩ = some a2 ∧ W.cell? ⟨b, 3, none⟩ = some a3 ∧ W.cell? ⟨b, 4, none⟩ = some a4 ∧ W.cell? ⟨b, 5, none⟩ = some a5 ∧ ∀ i, W.frozen? ⟨b, i, none⟩ = false := by
  have c0 := cell_of_heap h 0
  have c1 := cell_of_heap h 1
  have c2 := cell_of_heap h 2
  have c3 := cell_of_heap h 3
  have c4 := cell_of_heap h 4
  have c5 := cell_of_heap h 5
  simp only [List.getElem?_toArray, List.getElem?_cons_zero, List.getElem?_cons_succ] at c0 c1 c2 c3 c4 c5
  exact ⟨c0, c1, c2, c3, c4, c5, fun i => by simp [World.frozen?, h]⟩
/-- The first k stages of a leaf's way, cell by cell. -/
def stagesL (t : TreeV) (total leaf : Nat) : Nat → List Value
  | 0 => []
  | k + 1 => stagesL t total leaf k ++ ((wayS t total leaf (k + 1)).cellsL ++ [.int .u64 ((wayA t.fn (t.rowsOf total) leaf k : Int) - ((wayS t total leaf (k + 1)).frm : Int))])
theorem info_stage : (Try.prog.info? 46).map (fun i => (i.zero, i.size, i.bytes)) = some (some (.agg #[.int .i64 0, .int .u64 0, .int .u64 0, .int .u64 0, .bool false, .bool false, .int .u64 0]), 7, 48) := by kernel_rfl
theorem cells_new7 (W : World) (a0 a1 a2 a3 a4 a5 a6 : Value) (T : TypeId) (n : Nat) (hn : n = W.heap.size) : ∀ j u, [a0, a1, a2, a3, a4, a5, a6][j]? = some u → (W.alloc (.cells #[a0, a1, a2, a3, a4, a5, a6] T)).cell? (Addr.add ⟨n, 0, none⟩ j) = some u := by
  subst hn
  intro j u hj
  have h := cell_of_heap (World.alloc_heap_new W (.cells #[a0, a1, a2, a3, a4, a5, a6] T)) j
  rw [show Addr.add ⟨W.heap.size, 0, none⟩ j = ⟨W.heap.size, j, none⟩ by first | (simp [Addr.add]; done) | (simp [Addr.add]; omega), h]
  rw [← Array.getElem?_toList]; exact hj
/-- What the loop of way knows. -/
def StageRel (t : TreeV) (total leaf n : Nat) (w1 : World) (v : Value) (wr : World) : Prop :=
  ∃ k, k < n ∧ sliceLen v = k ∧ wr.ownsRow (w1.heap.size + 1) 46 7 v k (stagesL t total leaf k) ∧ Below w1.heap.size w1 wr ∧
    wr.heap[w1.heap.size]? = some (Obj.cells #[.int .i64 (k : Nat), .int .u64 (wayA t.fn (t.rowsOf total) leaf k : Nat), .int .u64 (wayS t total leaf k).frm, .int .u64 (wayS t total leaf k).to_, .bool (wayS t total leaf k).last, .bool (decide (k = n - 1))] 44 (0, 0))
theorem ownsRow_any {w : World} {base size n : Nat} {e : TypeId} {v : Value} {xs : List Value} (h : w.ownsRow base e size v n xs) : ∃ a c, v = .slice a n c := by
  rcases ownsRow_forms h with ⟨h, h2⟩ | ⟨g, cap, h⟩
  · exact ⟨none, 0, by rw [h, h2]⟩
  · exact ⟨_, _, h⟩
theorem way_ok (t : TreeV) (total leaf : Nat) {n : Nat} (hn : 2 ≤ n) (hn2 : n ≤ 255)
    (HS : Hid (∀ k, k < n → ∀ w, Calls Try.prog 11 #[t.val, .int .u64 total, .int .i64 (k : Nat), .int .u64 (wayA t.fn (t.rowsOf total) leaf k : Nat)] w fun r w' => r = .returned (.tuple #[.agg #[.int .i64 (k : Nat), .int .u64 (wayA t.fn (t.rowsOf total) leaf k : Nat), .int .u64 (wayS t total leaf k).frm, .int .u64 (wayS t total leaf k).to_, .bool (wayS t total leaf k).last, .bool (decide (k = n - 1))], .int .i64 0]) ∧ Below w.heap.size w w'))
    (HP : Hid (∀ k, k + 1 < n → ∀ w, Calls Try.prog 12 #[t.val, .int .u64 total, .int .i64 (k : Nat), .int .u64 (wayA t.fn (t.rowsOf total) leaf k : Nat)] w fun r w' => r = .returned (.tuple #[.int .u64 (wayA t.fn (t.rowsOf total) leaf (k + 1) : Nat), .int .i64 0]) ∧ Below w.heap.size w w'))
    (HW : Hid (∀ k, k < n → (wayS t total leaf k).cellsL = [.int .i64 (k : Nat), .int .u64 (wayA t.fn (t.rowsOf total) leaf k : Nat), .int .u64 (wayS t total leaf k).frm, .int .u64 (wayS t total leaf k).to_, .bool (wayS t total leaf k).last, .bool (decide (k = n - 1))]))
    (HF : Hid (∀ k, k + 1 < n → ((wayS t total leaf (k + 1)).frm : Int) ≤ (wayA t.fn (t.rowsOf total) leaf k : Int) ∧ (wayA t.fn (t.rowsOf total) leaf k : Int) ≤ 18446744073709551615)) (w : World) :
    Calls Try.prog 7 #[t.val, .int .u64 total, .int .u64 leaf] w fun e w' => ∃ v, e = .returned (.tuple #[v, .int .i64 0]) ∧ w'.ownsRow w.heap.size 46 7 v (n - 1) (stagesL t total leaf (n - 1)) ∧ Below w.heap.size w w' := by
  obtain ⟨i0, hi, hz0, hz1, hz2⟩ := info_parts info_stage
  have S0 := hid (HS.out 0 (by omega))
  have W0 := hid (HW.out 0 (by omega))
  unfold TreeV.val at *
  have q0 : decide (0 = n - 1) = false := decide_eq_false (by omega)
  rw [q0] at S0 W0
  simp only [wayA, Int.natCast_zero] at S0 W0
  go_enter Try.func7, Try.ntmps7
  go_wp2_with fail
  refine (S0.out _).mono ?_; rintro r w1 ⟨rfl, hb1⟩
  have hs1 := hb1.size
  simp at hs1
  have k1 : w.heap.size < w1.heap.size := by omega
  have hB1 : Below w.heap.size w w1 := below_alloc_then _ hb1
  obtain ⟨hc1, hf1⟩ := bcell hb1
  clear hb1
  go_wp2_with fail
  go_loopw [10] (fun v wr => StageRel t total leaf n w1 v wr) (fun v _ => n - sliceLen v)
  case atStart =>
    refine ⟨0, by omega, rfl, World.ownsRow_nil _ _ _ _, (Below.refl _ w1).alloc (Nat.le_refl _) _, ?_⟩
    rw [q0]
    exact World.alloc_heap_new _ _
  case round =>
    obtain ⟨k, hk, hlen, hown, hb, hbox⟩ := hrel
    have hsr := hb.size
    obtain ⟨hcr, hfr⟩ := bcell hb
    have hbs : w1.heap.size < wr.heap.size := (Array.getElem?_eq_some_iff.1 hbox).1
    have BX := hid hbox
    obtain ⟨c0, c1, c2, c3, c4, c5, cf⟩ := cells6 hbox
    clear hbox
    obtain ⟨ga, gc, rfl⟩ := ownsRow_any hown
    by_cases hroot : k = n - 1
    · have q1 : decide (k = n - 1) = true := decide_eq_true hroot
      rw [q1] at c5
      go_wp2
      refine bodyPost_ret (results_tmp2 (fn := Try.f7) (t := 6) (u := 7) rfl _ _ _) rfl ⟨_, rfl, ?_, hB1.trans (hb.mono (by omega))⟩
      rw [← hroot]
      exact ownsRow_le hown (by omega)
    · have q1 : decide (k = n - 1) = false := decide_eq_false hroot
      rw [q1] at c5
      obtain ⟨hf1', hf2'⟩ := HF.out k (by omega)
      go_wp2_with fail
      refine (HP.out k (by omega) _).mono ?_; rintro r w3 ⟨rfl, hb3⟩
      have hs3 := hb3.size
      obtain ⟨d0, d1, d2, d3, d4, d5, df⟩ := cells6 ((hb3.block _ (by omega)).trans BX.out)
      have hB3 : Below w1.heap.size w1 w3 := hb.trans (hb3.mono (by omega))
      obtain ⟨hc3, hf3⟩ := bcell hB3
      have S1 := HS.out (k + 1) (by omega)
      simp only [Int.natCast_add, Int.natCast_one] at S1
      have S1 := hid S1
      go_wp2_with fail
      refine (S1.out _).mono ?_; rintro r w4 ⟨rfl, hb4⟩
      have hs4 := hb4.size
      have hws : w1.heap.size < w4.heap.size := by omega
      have E4 := (hb4.block _ (by omega)).trans ((hb3.block _ (by omega)).trans BX.out)
      have E4' := hid E4
      obtain ⟨e0, e1, e2, e3, e4, e5, ef⟩ := cells6 E4
      have hB4 : Below w1.heap.size w1 w4 := hB3.trans (hb4.mono (by omega))
      have hown4 := pOwnsRow_same' hown (fun g _ g2 => (hb3.trans (hb4.mono hs3)).block g g2)
      have HO4 := hid hown4
      clear E4 hown4 hown
      go_wp2_with (at_builtin; refine wpList_append_own _ rfl _ _ 37 rfl (w1.heap.size + 1) 46 i0 _ 7 48 Try.underlying37 hi hz0 hz1 hz2 rfl (by decide) (.slice ga k gc) k (stagesL t total leaf k) rfl ?_ ⟨w4.heap.size + 1, 0, none⟩ 1 1 [.int .i64 ((k : Int) + 1), .int .u64 (wayA t.fn (t.rowsOf total) leaf (k + 1) : Nat), .int .u64 (wayS t total leaf (k + 1)).frm, .int .u64 (wayS t total leaf (k + 1)).to_, .bool (wayS t total leaf (k + 1)).last, .bool (decide (k + 1 = n - 1)), .int .u64 ((wayA t.fn (t.rowsOf total) leaf k : Int) - ((wayS t total leaf (k + 1)).frm : Int))] rfl rfl ?_ (by simp [Value.oneCell']) (by unfold maxLen; omega) (by omega) (by simp; omega) ?_; exact (HO4.out.alloc _).alloc _; exact cells_new7 _ _ _ _ _ _ _ _ _ _ (by simp); intro v' w5 hown' hgrow _; have U5 : w5.heap[w4.heap.size]? = some (Obj.cells #[.int .i64 ((k : Int) + 1), .int .u64 (wayA t.fn (t.rowsOf total) leaf (k + 1) : Nat), .int .u64 (wayS t total leaf (k + 1)).frm, .int .u64 (wayS t total leaf (k + 1)).to_, .bool (wayS t total leaf (k + 1)).last, .bool (decide (k + 1 = n - 1))] 44 (0, 0)) := (hgrow.block w4.heap.size (by simp; omega) (fun e => absurd ((HO4.out.lt _ e.symm).2) (Nat.lt_irrefl _))).trans ((Below.heap_alloc _ _ _ (by simp)).trans (World.alloc_heap_new _ _)); have S5 := (hgrow.block w1.heap.size (by simp; omega) (fun e => absurd ((HO4.out.lt _ e.symm).1) (by omega))).trans ((Below.heap_alloc _ _ _ (by simp; omega)).trans ((Below.heap_alloc _ _ _ hws).trans E4'.out)); obtain ⟨u0, u1, u2, u3, u4, u5, uf⟩ := cells6 U5; obtain ⟨s0, s1, s2, s3, s4, s5, sf⟩ := cells6 S5; have S5' := hid S5; clear U5 S5)
      obtain ⟨g2, cap2, rfl⟩ := ownsRow_form hown' (by omega)
      have hW := HW.out (k + 1) (by omega)
      simp only [Int.natCast_add, Int.natCast_one] at hW
      have hbB : Below w1.heap.size w1 w5 := ((hB4.alloc (by omega) _).alloc (by simp; omega) _).grown hgrow (by simp; omega) (fun j e => by have := (HO4.out.lt j e).1; omega)
      have hset := block_set6 S5'.out (.int .i64 ((k : Int) + 1)) (.int .u64 (wayA t.fn (t.rowsOf total) leaf (k + 1) : Nat)) (.int .u64 (wayS t total leaf (k + 1)).frm) (.int .u64 (wayS t total leaf (k + 1)).to_) (.bool (wayS t total leaf (k + 1)).last) (.bool (decide (k + 1 = n - 1)))
      refine ⟨⟨k + 1, by omega, rfl, ?_, below_set6 hbB (Nat.le_refl _) (.int .i64 ((k : Int) + 1)) (.int .u64 (wayA t.fn (t.rowsOf total) leaf (k + 1) : Nat)) (.int .u64 (wayS t total leaf (k + 1)).frm) (.int .u64 (wayS t total leaf (k + 1)).to_) (.bool (wayS t total leaf (k + 1)).last) (.bool (decide (k + 1 = n - 1))), ?_⟩, by simp [sliceLen]; omega⟩
      · have hown'' : w5.ownsRow (w1.heap.size + 1) 46 7 (.slice (some ⟨g2, 0, none⟩) (k + 1) cap2) (k + 1) (stagesL t total leaf (k + 1)) := by
          show w5.ownsRow _ _ 7 _ _ (stagesL t total leaf k ++ ((wayS t total leaf (k + 1)).cellsL ++ _))
          rw [hW]; exact hown'
        exact (ownsRow_setCell_below (ownsRow_setCell_below (ownsRow_setCell_below (ownsRow_setCell_below (ownsRow_setCell_below (ownsRow_setCell_below hown'' (a := ⟨w1.heap.size, 0, none⟩) (Nat.lt_succ_self _) _) (a := ⟨w1.heap.size, 1, none⟩) (Nat.lt_succ_self _) _) (a := ⟨w1.heap.size, 2, none⟩) (Nat.lt_succ_self _) _) (a := ⟨w1.heap.size, 3, none⟩) (Nat.lt_succ_self _) _) (a := ⟨w1.heap.size, 4, none⟩) (Nat.lt_succ_self _) _) (a := ⟨w1.heap.size, 5, none⟩) (Nat.lt_succ_self _) _)
      · simp only [Int.natCast_add, Int.natCast_one]
        exact hset
theorem way_err (t : TreeV) (total leaf : Nat) {z0 z1 z2 z3 : Int} {z4 z5 : Bool} {e : Int}
    (HS : Hid (∀ w, Calls Try.prog 11 #[t.val, .int .u64 total, .int .i64 0, .int .u64 leaf] w fun r w' => r = .returned (.tuple #[.agg #[.int .i64 z0, .int .u64 z1, .int .u64 z2, .int .u64 z3, .bool z4, .bool z5], .int .i64 e]) ∧ Below w.heap.size w w')) (he : (e != 0) = true) (w : World) :
    Calls Try.prog 7 #[t.val, .int .u64 total, .int .u64 leaf] w fun r w' => r = .returned (.tuple #[.slice none 0 0, .int .i64 e]) ∧ Below w.heap.size w w' := by
  unfold TreeV.val at *
  go_enter Try.func7, Try.ntmps7
  go_wp2_with fail
  refine (HS.out _).mono ?_; rintro r w1 ⟨rfl, hb1⟩
  have hs1 := hb1.size
  simp at hs1
  have hB1 : Below w.heap.size w w1 := below_alloc_then _ hb1
  go_wp2
  refine bodyPost_ret (results_tmp2 (fn := Try.f7) (t := 6) (u := 7) rfl _ _ _) rfl ⟨rfl, ?_⟩
  first | exact hB1 | exact hB1.alloc (by omega) _
theorem cellsL_length (s : SpotV) : s.cellsL.length = 6 := rfl
theorem stagesL_length (t : TreeV) (total leaf : Nat) : ∀ k, (stagesL t total leaf k).length = 7 * k
  | 0 => rfl
  | k + 1 => by
    have := stagesL_length t total leaf k
    simp only [stagesL, List.length_append, this, cellsL_length, List.length_cons, List.length_nil]; omega
theorem stagesL_get (t : TreeV) (total leaf : Nat) : ∀ m i c, i < m → c < 6 → (stagesL t total leaf m)[7 * i + c]? = (wayS t total leaf (i + 1)).cellsL[c]?
  | m + 1, i, c, h, hc => by
    have hl := stagesL_length t total leaf m
    show (stagesL t total leaf m ++ _)[7 * i + c]? = _
    by_cases he : i = m
    · subst he
      rw [List.getElem?_append_right (by omega), hl, show 7 * i + c - 7 * i = c by omega, List.getElem?_append_left (by rw [cellsL_length]; exact hc)]
    · rw [List.getElem?_append_left (by omega)]
      exact stagesL_get t total leaf m i c (by omega) hc
theorem stagesL_get6 (t : TreeV) (total leaf : Nat) : ∀ m i, i < m → (stagesL t total leaf m)[7 * i + 6]? = some (.int .u64 ((wayA t.fn (t.rowsOf total) leaf i : Int) - ((wayS t total leaf (i + 1)).frm : Int)))
  | m + 1, i, h => by
    have hl := stagesL_length t total leaf m
    show (stagesL t total leaf m ++ _)[7 * i + 6]? = _
    by_cases he : i = m
    · subst he
      rw [List.getElem?_append_right (by omega), hl, show 7 * i + 6 - 7 * i = 6 by omega, List.getElem?_append_right (by rw [cellsL_length]; omega), cellsL_length]
      rfl
    · rw [List.getElem?_append_left (by omega)]
      exact stagesL_get6 t total leaf m i (by omega)
end Go.Proofs.Ytahenngmaoellaa
namespace Go.Proofs.Ytahenngmaoellaa
open Go.ChangeShapes Go.WideShapes Go.ChangeAt Go.RowKit Go.Joins Go.Shelf Go.Maps
open Go.Lib (hid)
theorem spotIn_root' {f l total : Nat} {L : List Nat} {row at_ : Nat} (h : 1 ≤ row ∧ nth L row = 1) : spotIn f l total L row at_ = ⟨row, at_, 0, nth L (row - 1), decide (at_ = nth L row - 1), true⟩ := by
  unfold spotIn; rw [if_pos h]
theorem spotIn_last' {f l total : Nat} {L : List Nat} {row at_ : Nat} (h : ¬ (1 ≤ row ∧ nth L row = 1)) (h2 : at_ = nth L row - 1) : spotIn f l total L row at_ = ⟨row, at_, at_ * (if row = 0 then l else f), if row = 0 then total else nth L (row - 1), true, false⟩ := by
  unfold spotIn; rw [if_neg h, if_pos h2]
theorem spotIn_mid' {f l total : Nat} {L : List Nat} {row at_ : Nat} (h : ¬ (1 ≤ row ∧ nth L row = 1)) (h2 : ¬ at_ = nth L row - 1) : spotIn f l total L row at_ = ⟨row, at_, at_ * (if row = 0 then l else f), (at_ + 1) * (if row = 0 then l else f), false, false⟩ := by
  unfold spotIn; rw [if_neg h, if_neg h2]
/-- A node's parent is there, and has the node among its children. -/
theorem child_of' {f p total l : Nat} {L : List Nat} (h : RowsIs f p (lvs total l) L) {k at_ : Nat} (hk : k + 1 < L.length) (ha : at_ < nth L k) :
    (if nth L (k + 1) = 1 then 0 else at_ / f) < nth L (k + 1) ∧ (spotIn f l total L (k + 1) (if nth L (k + 1) = 1 then 0 else at_ / f)).frm ≤ at_ ∧ at_ < (spotIn f l total L (k + 1) (if nth L (k + 1) = 1 then 0 else at_ / f)).to_ := by
  by_cases h1 : nth L (k + 1) = 1
  · rw [if_pos h1, spotIn_root' ⟨by omega, h1⟩]
    refine ⟨by omega, Nat.zero_le _, ?_⟩
    rw [Nat.add_sub_cancel]; exact ha
  · rw [if_neg h1]
    obtain ⟨e, hf⟩ := h.next_or hk h1
    have hf1 : 0 < f := by omega
    have d1 := Nat.div_add_mod at_ f
    have d2 := Nat.mod_lt at_ hf1
    have d3 : at_ / f < cdiv (nth L k) f := by
      rcases Nat.lt_or_ge (at_ / f) (cdiv (nth L k) f) with h' | h'
      · exact h'
      · have := cdiv_ge (by omega) h'
        rw [Nat.mul_comm] at this
        omega
    have hn : ¬ (1 ≤ k + 1 ∧ nth L (k + 1) = 1) := fun h => h1 h.2
    have d4 : at_ / f * f ≤ at_ := Nat.div_mul_le_self _ _
    refine ⟨by rw [e]; exact d3, ?_⟩
    by_cases h2 : at_ / f = nth L (k + 1) - 1
    · rw [spotIn_last' hn h2]
      simp only [Nat.succ_ne_zero, if_false, Nat.add_sub_cancel]
      exact ⟨d4, ha⟩
    · rw [spotIn_mid' hn h2]
      simp only [Nat.succ_ne_zero, if_false]
      refine ⟨d4, ?_⟩
      rw [Nat.add_mul, Nat.one_mul, Nat.mul_comm (at_ / f) f]; omega
theorem spotIn_to_le {f p total l : Nat} {L : List Nat} (hl : 1 ≤ l) (h : RowsIs f p (lvs total l) L) {k A : Nat} (hk : k < L.length) (hk1 : 1 ≤ k) (ha : A < nth L k) : (spotIn f l total L k A).to_ ≤ nth L (k - 1) := by
  by_cases h1 : 1 ≤ k ∧ nth L k = 1
  · rw [spotIn_root' h1]; exact Nat.le_refl _
  · obtain ⟨b1, b2, b3⟩ := spot_bounds hl h hk ha h1
    rw [if_neg (show ¬ k = 0 by omega), if_neg (show ¬ k = 0 by omega)] at b1 b2
    by_cases h2 : A = nth L k - 1
    · rw [spotIn_last' h1 h2]
      show (if k = 0 then total else nth L (k - 1)) ≤ _
      rw [if_neg (by omega)]; exact Nat.le_refl _
    · rw [spotIn_mid' h1 h2]
      show (A + 1) * (if k = 0 then l else f) ≤ _
      rw [if_neg (by omega)]; exact b2 h2
structure WayFacts (t : TreeV) (total leaf n : Nat) : Prop where
  two : 2 ≤ n
  most : n ≤ 255
  cells : ∀ k, k < n → (wayS t total leaf k).cellsL = [.int .i64 (k : Nat), .int .u64 (wayA t.fn (t.rowsOf total) leaf k : Nat), .int .u64 (wayS t total leaf k).frm, .int .u64 (wayS t total leaf k).to_, .bool (wayS t total leaf k).last, .bool (decide (k = n - 1))]
  child : ∀ k, k + 1 < n → ((wayS t total leaf (k + 1)).frm : Int) ≤ (wayA t.fn (t.rowsOf total) leaf k : Int) ∧ (wayA t.fn (t.rowsOf total) leaf k : Int) ≤ 18446744073709551615
  wide : ∀ k, 1 ≤ k → k < n → ((wayS t total leaf k).frm : Int) + 1 ≤ ((wayS t total leaf k).to_ : Int) ∧ ((wayS t total leaf k).to_ : Int) ≤ 18446744073709551615
  par : ∀ k, k + 1 < n → t.parE total k (wayA t.fn (t.rowsOf total) leaf k) = 0 ∧ t.parV total k (wayA t.fn (t.rowsOf total) leaf k) = wayA t.fn (t.rowsOf total) leaf (k + 1)
  spot : ∀ k, k < n → t.spotE total k (wayA t.fn (t.rowsOf total) leaf k) = 0 ∧ (t.spotR total k (wayA t.fn (t.rowsOf total) leaf k)).val = .agg #[.int .i64 (k : Nat), .int .u64 (wayA t.fn (t.rowsOf total) leaf k : Nat), .int .u64 (wayS t total leaf k).frm, .int .u64 (wayS t total leaf k).to_, .bool (wayS t total leaf k).last, .bool (decide (k = n - 1))]
  at_ : ∀ k, k < n → (wayA t.fn (t.rowsOf total) leaf k : Int) ≤ 18446744073709551615
theorem way_facts {t : TreeV} (hl : 0 ≤ t.l ∧ t.l ≤ 4294967295) {total : Nat} (ht : (total : Int) ≤ 18446744073709551615) {leaf : Nat} (h : t.spotE total 0 leaf = 0) : WayFacts t total leaf (t.rowsOf total).length := by
  have her : t.err total = 0 := by
    by_cases h' : t.err total = 0
    · exact h'
    · unfold TreeV.spotE at h; rw [if_pos h'] at h; exact absurd h h'
  have hleaf : leaf < nth (t.rowsOf total) 0 := by
    unfold TreeV.spotE at h
    rw [if_neg (by simp [her])] at h
    by_cases hth : t.there total 0 leaf
    · exact hth.2.2
    · rw [if_neg hth] at h; omega
  obtain ⟨hl1, hl2, hln, h0⟩ := TreeV.ok_facts hl her
  have hvf := TreeV.valid_facts h0
  have hR := TreeV.rows_is her
  have hm := hR.most
  have hpp : (t.pn : Int) ≤ 255 := by unfold TreeV.pn; omega
  have hA : ∀ k, k < (t.rowsOf total).length → (wayA t.fn (t.rowsOf total) leaf k : Int) ≤ 18446744073709551615 := fun k hk => by
    have := wayA_lt hR hleaf k hk
    have := rows_le hl1 ht hR k hk
    omega
  have hch : ∀ k, k + 1 < (t.rowsOf total).length → (wayS t total leaf (k + 1)).frm ≤ wayA t.fn (t.rowsOf total) leaf k ∧ wayA t.fn (t.rowsOf total) leaf k < (wayS t total leaf (k + 1)).to_ := fun k hk =>
    (child_of' (l := t.ln) hR hk (wayA_lt hR hleaf k (by omega))).2
  refine ⟨hR.len, by omega, fun k hk => ?_, fun k hk => ?_, fun k hk1 hk => ?_, fun k hk => ?_, fun k hk => ?_, hA⟩
  · obtain ⟨-, -, r1, r2, r3, -⟩ := way_step her hleaf hk
    unfold SpotV.cellsL
    rw [r1, r2, r3]
  · have := (hch k hk).1
    have := hA k (by omega)
    omega
  · obtain ⟨j, rfl⟩ : ∃ j, k = j + 1 := ⟨k - 1, by omega⟩
    have h1 := hch j hk
    have h2 : (wayS t total leaf (j + 1)).to_ ≤ nth (t.rowsOf total) j := spotIn_to_le hl1 hR hk (by omega) (wayA_lt hR hleaf _ hk)
    have h3 := rows_le hl1 ht hR j (by omega)
    omega
  · obtain ⟨s1, s2, r1, r2, r3, r4⟩ := way_step her hleaf (show k < (t.rowsOf total).length by omega)
    refine ⟨?_, r4 (by omega)⟩
    unfold TreeV.parE
    rw [if_neg (by simp [s1]), s2, r3, if_neg (by simp; omega)]
  · obtain ⟨s1, s2, r1, r2, r3, -⟩ := way_step her hleaf hk
    refine ⟨s1, ?_⟩
    rw [s2, SpotV.val_is, r1, r2, r3]
end Go.Proofs.Ytahenngmaoellaa
