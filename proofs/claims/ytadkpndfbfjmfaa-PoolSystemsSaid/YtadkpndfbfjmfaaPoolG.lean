/- The law's compare of two systems: equal ones. No condition. -/
import Derived.Test.YtadkpndfbfjmfaaPoolF
namespace Go.Proofs.Ytadkpndfbfjmfaa
open Go.ChangeShapes Go.WideShapes Go.ChangeAt Go.RowKit Go.Joins
attribute [local go_sem] Oper.semAt_some

theorem letter_world {P : Program} {c : Code} {Q : Exit → Act → World → Prop} {a : Act} {w : World} (h : ∀ W, W = w → Code.wp P c Q a W) : Code.wp P c Q a w := h w rfl
theorem drewN_add2 (w : World) (m n : Nat) : (w.drewN m).drewN n = w.drewN (m + n) := by unfold World.drewN; simp [Nat.add_assoc]
def progN (n k bq : Int) (i : Nat) : List InstV := match i with | 0 => combL k | 1 => workL | 2 => feedL bq n | _ => closeL
theorem progN_len (n k bq : Int) (i : Nat) : (progN n k bq i).length ≤ 19 := by
  match i with
  | 0 => exact (by decide : (15 : Nat) ≤ 19)
  | 1 => exact (by decide : (8 : Nat) ≤ 19)
  | 2 => exact (by decide : (19 : Nat) ≤ 19)
  | i + 3 => exact (by decide : (3 : Nat) ≤ 19)
def InstCellsAt (w : World) (b : Nat) (L : List InstV) : Prop := b < w.heap.size ∧ ∀ j, j < L.length →
    w.cell? ⟨b, j * 4, none⟩ = some (.int .i64 (nthI L j).op) ∧ w.cell? ⟨b, j * 4 + 1, none⟩ = some (.int .i64 (nthI L j).a) ∧ w.cell? ⟨b, j * 4 + 2, none⟩ = some (.int .i64 (nthI L j).b) ∧ w.cell? ⟨b, j * 4 + 3, none⟩ = some (.int .i64 (nthI L j).c)
theorem InstCellsAt.below {w W : World} {b : Nat} {L : List InstV} (h : InstCellsAt w b L) (hb : Below w.heap.size w W) : InstCellsAt W b L :=
  ⟨Nat.lt_of_lt_of_le h.1 hb.size, fun j hj => by
    obtain ⟨h0, h1, h2, h3⟩ := h.2 j hj
    exact ⟨(hb.cell (p := ⟨b, _, none⟩) h.1).trans h0, (hb.cell (p := ⟨b, _, none⟩) h.1).trans h1, (hb.cell (p := ⟨b, _, none⟩) h.1).trans h2, (hb.cell (p := ⟨b, _, none⟩) h.1).trans h3⟩⟩
theorem progs_cell {w : World} {v : Value} {n k q bq : Int} (hq : poolB k q = bq) (h : SysOk w v n k q) : ∃ (pb rb : Nat) (A : Nat → Nat), v = .agg #[.slice (some ⟨pb, 0, none⟩) 4 4, .slice (some ⟨rb, 0, none⟩) 3 3, .int .i64 1, .int .i64 0, .int .i64 bq] ∧ pb < w.heap.size ∧
    (∀ i, i < 4 → w.cell? ⟨pb, i, none⟩ = some (.slice (some ⟨A i, 0, none⟩) (progN n k bq i).length (progN n k bq i).length) ∧ InstCellsAt w (A i) (progN n k bq i)) ∧ IntsAt w (.slice (some ⟨rb, 0, none⟩) 3 3) [q, q, bq] := by
  subst hq
  obtain ⟨pb, rb, v0, v1, v2, v3, e, hp, hr, h0, h1, h2, h3⟩ := h
  obtain ⟨b0, rfl, c0⟩ := insts_cell h0
  obtain ⟨b1, rfl, c1⟩ := insts_cell h1
  obtain ⟨b2, rfl, c2⟩ := insts_cell h2
  obtain ⟨b3, rfl, c3⟩ := insts_cell h3
  refine ⟨pb, rb, fun i => match i with | 0 => b0 | 1 => b1 | 2 => b2 | _ => b3, e, (Array.getElem?_eq_some_iff.1 hp).1, fun i hi => ?_, ⟨rb, rfl, hr⟩⟩
  rw [cell_of_heap hp]
  match i, hi with
  | 0, _ => exact ⟨rfl, c0⟩
  | 1, _ => exact ⟨rfl, c1⟩
  | 2, _ => exact ⟨rfl, c2⟩
  | 3, _ => exact ⟨rfl, c3⟩
set_option maxRecDepth 100000 in
theorem systems_zero (w : World) : Calls Try.prog 13 #[sysZero, sysZero] w fun e w' => e = .returned (.bool true) ∧ Below w.heap.size w w' := by
  have HI := Lib.hid ints_nil
  unfold sysZero
  go_enter Try.func13, Try.ntmps13
  go_wp2_with fail
  refine (HI.out _).mono ?_; rintro r w2 ⟨rfl, m, rfl⟩
  go_wp2_with fail
  refine letter_world ?_
  intro W hW
  have hBW : Below w.heap.size w W := by rw [hW]; exact (((Below.refl _ _).alloc (Nat.le_refl _) _).alloc (by simp) _).trans (below_drewN _ _)
  have c1 : W.cell? ⟨w.heap.size, 0, none⟩ = some (.slice none 0 0) := by
    rw [hW, World.cell?_drewN, cell_of_heap ((Below.heap_alloc _ _ w.heap.size (by simp)).trans (World.alloc_heap_new w _)) 0]; rfl
  clear hW
  go_loopw [5] (fun i wr => i = .int .i64 0 ∧ wr = W) (fun _ _ => 0)
  case atStart => exact ⟨rfl, rfl⟩
  case round =>
    obtain ⟨rfl, rfl⟩ := hrel
    go_wp2
    go_ret
    exact ⟨rfl, hBW⟩
set_option maxRecDepth 100000 in
set_option maxHeartbeats 1000000 in
theorem systems_eq (n k q : Int) (u v : Value) (w : World) (hu : SysOk w u n k q) (hv : SysOk w v n k q) :
    Calls Try.prog 13 #[u, v] w fun e w' => e = .returned (.bool true) ∧ Below w.heap.size w w' := by
  obtain ⟨bq, hbq⟩ : ∃ bq, poolB k q = bq := ⟨_, rfl⟩
  obtain ⟨pb, rb, A, rfl, hpb, hA, hr⟩ := progs_cell hbq hu
  obtain ⟨pb', rb', A', rfl, hpb', hA', hr'⟩ := progs_cell hbq hv
  have HI := Lib.hid (fun W h h' => ints_eq [q, q, bq] (.slice (some ⟨rb, 0, none⟩) 3 3) (.slice (some ⟨rb', 0, none⟩) 3 3) W h h' (by simp))
  have HR := Lib.hid hr
  have HR' := Lib.hid hr'
  have HA := Lib.hid hA
  have HA' := Lib.hid hA'
  have HL := Lib.hid (progN_len n k bq)
  clear hu hv hr hr' hA hA'
  go_enter Try.func13, Try.ntmps13
  go_wp2_with fail
  refine (HI.out _ (HR.out.below (((Below.refl _ _).alloc (Nat.le_refl _) _).alloc (by simp) _)) (HR'.out.below (((Below.refl _ _).alloc (Nat.le_refl _) _).alloc (by simp) _))).mono ?_; rintro r w2 ⟨rfl, m, rfl⟩
  go_wp2_with fail
  refine letter_world ?_
  intro W hW
  have hBW : Below w.heap.size w W := by rw [hW]; exact (((Below.refl _ _).alloc (Nat.le_refl _) _).alloc (by simp) _).trans (below_drewN _ _)
  have c1 : W.cell? ⟨w.heap.size, 0, none⟩ = some (.slice (some ⟨pb, 0, none⟩) 4 4) := by
    rw [hW, World.cell?_drewN, cell_of_heap ((Below.heap_alloc _ _ w.heap.size (by simp)).trans (World.alloc_heap_new w _)) 0]; rfl
  have c2 : W.cell? ⟨w.heap.size + 1, 0, none⟩ = some (.slice (some ⟨pb', 0, none⟩) 4 4) := by
    rw [hW, World.cell?_drewN, cell_of_heap (World.alloc_heap_new_at _ _ (by simp)) 0]; rfl
  clear hW
  go_loopw [5] (fun i wr => ∃ (j m : Nat), i = .int .i64 j ∧ j ≤ 4 ∧ wr = W.drewN m) (fun i _ => 4 - (intOf i).toNat)
  case atStart => exact ⟨0, 0, rfl, Nat.zero_le _, rfl⟩
  case round =>
    obtain ⟨j, m, rfl, hj, rfl⟩ := hrel
    by_cases hlt : j < 4
    · obtain ⟨k1, K1⟩ := HA.out j hlt
      obtain ⟨k2, K2⟩ := HA'.out j hlt
      have hlen := HL.out j
      have d1 := (hBW.cell (p := ⟨pb, j, none⟩) hpb).trans k1
      have d2 := (hBW.cell (p := ⟨pb', j, none⟩) hpb').trans k2
      have F1 := Lib.hid (K1.below hBW)
      have F2 := Lib.hid (K2.below hBW)
      clear k1 k2 K1 K2
      generalize progN n k bq j = L at *
      generalize A j = a at *
      generalize A' j = a' at *
      generalize hN : L.length = N at *
      go_wp2_with fail
      go_quiet (fail)
      go_wp2_with fail
      rw [show decide ((j : Int) < 4) = true from decide_eq_true (by omega)]
      go_loopw [6] (fun i wr => ∃ (l m : Nat), i = .int .i64 l ∧ l ≤ N ∧ wr = W.drewN m) (fun i _ => N - (intOf i).toNat)
      case atStart => exact ⟨0, m + nq, rfl, Nat.zero_le _, drewN_add2 W m nq⟩
      case round =>
        obtain ⟨l, m2, rfl, hl, rfl⟩ := hrel
        by_cases hlt2 : l < N
        · obtain ⟨e0, e1, e2, e3⟩ := F1.out.2 l (by omega)
          obtain ⟨g0, g1, g2, g3⟩ := F2.out.2 l (by omega)
          generalize nthI L l = iv at *
          obtain ⟨io, ia, ib, ic⟩ := iv
          go_wp2_with fail
          go_quiet (fail)
          go_wp2
          exact ⟨⟨l + 1, m2 + nq, rfl, by omega, rfl⟩, by simp [intOf]; omega⟩
        · obtain rfl : l = N := by omega
          go_wp2
          exact ⟨⟨j + 1, m2, rfl, by omega, rfl⟩, by simp [intOf]; omega⟩
    · obtain rfl : j = 4 := by omega
      go_wp2
      go_ret
      exact ⟨rfl, hBW.trans (below_drewN _ _)⟩
end Go.Proofs.Ytadkpndfbfjmfaa
