/- The programs of a pool, by the reference. No condition. -/
import Derived.Test.YtadkpndfbfjmfaaPoolC
namespace Go.Proofs.Ytadkpndfbfjmfaa
open Go.ChangeShapes Go.WideShapes Go.ChangeAt Go.RowKit Go.Joins
attribute [local go_sem] Oper.semAt_some

/-- All blocks stay, but those of type System. -/
def KeepT (W W' : World) : Prop := ∀ (b : Nat) (cs : Array Value) (T : TypeId), T ≠ 32 → W.heap[b]? = some (.cells cs T (0, 0)) → W'.heap[b]? = some (.cells cs T (0, 0))
theorem KeepT.of_below {W W' : World} (h : Below W.heap.size W W') : KeepT W W' := fun _ _ _ _ hb => block_below hb h
theorem KeepT.of_set {W : World} {b : Nat} {c0 c1 c2 c3 c4 : Value} (h : W.heap[b]? = some (Obj.cells #[c0, c1, c2, c3, c4] 32 (0, 0))) (v0 v1 v2 v3 v4 : Value) :
    KeepT W (((((W.setCell ⟨b, 0, none⟩ v0).setCell ⟨b, 1, none⟩ v1).setCell ⟨b, 2, none⟩ v2).setCell ⟨b, 3, none⟩ v3).setCell ⟨b, 4, none⟩ v4) := fun g cs T hT hg => by
  have hne : g ≠ b := by
    rintro rfl
    rw [h] at hg
    simp only [Option.some.injEq, Obj.cells.injEq] at hg
    exact hT hg.2.1.symm
  exact (Below.heap_setCell _ _ _ _ hne).trans ((Below.heap_setCell _ _ _ _ hne).trans ((Below.heap_setCell _ _ _ _ hne).trans ((Below.heap_setCell _ _ _ _ hne).trans ((Below.heap_setCell _ _ _ _ hne).trans hg))))
theorem IntsAt.keep {W W' : World} {v : Value} {L : List Int} (h : IntsAt W v L) (hk : KeepT W W') : IntsAt W' v L := by
  obtain ⟨b, e, h⟩ := h; exact ⟨b, e, hk _ _ _ (by decide) h⟩
theorem InstsAt.keep {W W' : World} {v : Value} {L : List InstV} (h : InstsAt W v L) (hk : KeepT W W') : InstsAt W' v L := by
  obtain ⟨b, e, h⟩ := h; exact ⟨b, e, hk _ _ _ (by decide) h⟩
def ProgsAt (w : World) (v : Value) (n k bq : Int) : Prop := ∃ b v0 v1 v2 v3, v = .slice (some ⟨b, 0, none⟩) 4 4 ∧ w.heap[b]? = some (.cells #[v0, v1, v2, v3] 53 (0, 0)) ∧ InstsAt w v0 (combL k) ∧ InstsAt w v1 workL ∧ InstsAt w v2 (feedL bq n) ∧ InstsAt w v3 closeL
theorem ProgsAt.keep {W W' : World} {v : Value} {n k bq : Int} (h : ProgsAt W v n k bq) (hk : KeepT W W') : ProgsAt W' v n k bq := by
  obtain ⟨b, v0, v1, v2, v3, e, h, h0, h1, h2, h3⟩ := h; exact ⟨b, v0, v1, v2, v3, e, hk _ _ _ (by decide) h, h0.keep hk, h1.keep hk, h2.keep hk, h3.keep hk⟩
theorem SysOk.keep {W W' : World} {v : Value} {n k q : Int} (h : SysOk W v n k q) (hk : KeepT W W') : SysOk W' v n k q := by
  obtain ⟨b, r, v0, v1, v2, v3, e, h, hr, h0, h1, h2, h3⟩ := h; exact ⟨b, r, v0, v1, v2, v3, e, hk _ _ _ (by decide) h, hk _ _ _ (by decide) hr, h0.keep hk, h1.keep hk, h2.keep hk, h3.keep hk⟩
theorem SysOk.below {W W' : World} {v : Value} {n k q : Int} (h : SysOk W v n k q) (hb : Below W.heap.size W W') : SysOk W' v n k q := h.keep (KeepT.of_below hb)
theorem SysOk.of_progs {W : World} {p r : Value} {n k q bq : Int} (hq : poolB k q = bq) (hp : ProgsAt W p n k bq) (hr : IntsAt W r [q, q, bq]) : SysOk W (.agg #[p, r, .int .i64 1, .int .i64 0, .int .i64 bq]) n k q := by
  subst hq
  obtain ⟨b, v0, v1, v2, v3, rfl, h, h0, h1, h2, h3⟩ := hp
  obtain ⟨r, rfl, hr⟩ := hr
  exact ⟨b, r, v0, v1, v2, v3, rfl, h, hr, h0, h1, h2, h3⟩
inductive GP where
  | val (v : Value)
  | insts (l : List InstV)
  | ints (l : List Int)
  | progs
  | sys
  | nil
def GP.holds (n k q bq : Int) : GP → Value → World → Prop
  | .val u, v, _ => v = u
  | .insts l, v, W => InstsAt W v l
  | .ints l, v, W => IntsAt W v l
  | .progs, v, W => ProgsAt W v n k bq
  | .sys, v, W => SysOk W v n k q
  | .nil, _, _ => True
theorem GP.keep {n k q bq : Int} {g : GP} {v : Value} {W W' : World} (h : g.holds n k q bq v W) (hk : KeepT W W') : g.holds n k q bq v W' := by
  cases g with
  | val u => exact h
  | insts l => exact InstsAt.keep h hk
  | ints l => exact IntsAt.keep h hk
  | progs => exact ProgsAt.keep h hk
  | sys => exact SysOk.keep h hk
  | nil => trivial
def StoredAt (W : World) (b : Nat) (n k q : Int) : Prop := ∃ v0 v1 v2 v3 v4, W.heap[b]? = some (Obj.cells #[v0, v1, v2, v3, v4] 32 (0, 0)) ∧ SysOk W (.agg #[v0, v1, v2, v3, v4]) n k q
theorem InstsAt.ex {W : World} {v : Value} {L : List InstV} (h : InstsAt W v L) : ∃ b : Nat, v = .slice (some ⟨b, 0, none⟩) L.length L.length := by obtain ⟨b, e, -⟩ := h; exact ⟨b, e⟩
theorem IntsAt.ex {W : World} {v : Value} {L : List Int} (h : IntsAt W v L) : ∃ b : Nat, v = .slice (some ⟨b, 0, none⟩) L.length L.length := by obtain ⟨b, e, -⟩ := h; exact ⟨b, e⟩
theorem ProgsAt.ex {W : World} {v : Value} {n k bq : Int} (h : ProgsAt W v n k bq) : ∃ b : Nat, v = .slice (some ⟨b, 0, none⟩) 4 4 := by obtain ⟨b, v0, v1, v2, v3, e, -⟩ := h; exact ⟨b, e⟩
theorem SysOk.ex {W : World} {v : Value} {n k q bq : Int} (hq : poolB k q = bq) (h : SysOk W v n k q) : ∃ b r : Nat, v = .agg #[.slice (some ⟨b, 0, none⟩) 4 4, .slice (some ⟨r, 0, none⟩) 3 3, .int .i64 1, .int .i64 0, .int .i64 bq] := by subst hq; obtain ⟨b, r, v0, v1, v2, v3, e, -⟩ := h; exact ⟨b, r, e⟩
theorem store_elim {W : World} {v : Value} {n k q bq : Int} {b : Nat} {G : Prop} (hq : poolB k q = bq) (h : SysOk W v n k q) (hr : ∃ c0 c1 c2 c3 c4, W.heap[b]? = some (.cells #[c0, c1, c2, c3, c4] 32 (0, 0)))
    (hG : ∀ (pb rb : Nat) (y0 y1 y2 y3 y4 : Value), v = .agg #[.slice (some ⟨pb, 0, none⟩) 4 4, .slice (some ⟨rb, 0, none⟩) 3 3, .int .i64 1, .int .i64 0, .int .i64 bq] → W.heap[b]? = some (.cells #[y0, y1, y2, y3, y4] 32 (0, 0)) → G) : G := by
  obtain ⟨b, r, e⟩ := SysOk.ex hq h
  obtain ⟨c0, c1, c2, c3, c4, h⟩ := hr
  exact hG _ _ _ _ _ _ _ e h
def Good8 (bx : Nat) (n k q bq : Int) (L : List GP) (i : Nat) (v : Value) (W : World) : Prop :=
  if i = 17 then StoredAt W (bx + 1) n k q else match L[i]? with | some g => g.holds n k q bq v W | none => True
theorem good8_below {bx : Nat} {n k q bq : Int} (L : List GP) {W W' : World} (hb : Below W.heap.size W W') (i : Nat) : ∀ j u, j ≠ i → Good8 bx n k q bq L j u W → Good8 bx n k q bq L j u W' := by
  intro j u _ h
  unfold Good8 at *
  by_cases e : j = 17
  · rw [if_pos e] at h ⊢
    obtain ⟨v0, v1, v2, v3, v4, h, hs⟩ := h
    exact ⟨v0, v1, v2, v3, v4, block_below h hb, hs.below hb⟩
  · rw [if_neg e] at h ⊢
    split at h
    · exact GP.keep h (KeepT.of_below hb)
    · trivial
theorem good8_keep {bx : Nat} {n k q bq : Int} (L : List GP) {W W' : World} (hk : KeepT W W') : ∀ j u, j ≠ 17 → Good8 bx n k q bq L j u W → Good8 bx n k q bq L j u W' := by
  intro j u e h
  unfold Good8 at *
  rw [if_neg e] at h ⊢
  split at h
  · exact GP.keep h hk
  · trivial
theorem good8_nil {bx : Nat} {n k q bq : Int} {L : List GP} {o : Option Tmp} : ∀ v W, o = none → Good8 bx n k q bq L 17 v W → Good8 bx n k q bq L 17 undef W := fun v W _ h => by
  unfold Good8 at *
  rw [if_pos rfl] at h ⊢
  exact h
def goods8 (bx : Nat) (n k q bq : Int) (vc : Value) : List GP := [.val (.pointer (some ⟨bx, 0, none⟩)), .val (.int .i64 k), .insts (combL k), .insts workL, .val (.int .i64 bq), .val (.int .i64 n), .insts (feedL bq n), .val vc, .progs, .val (.pointer (some ⟨bx, 1, none⟩)), .val (.int .i64 q), .val (.pointer (some ⟨bx, 1, none⟩)), .val (.int .i64 q), .val (.int .i64 bq), .ints [q, q, bq], .val (.int .i64 bq), .sys, .nil, .val (.int .i64 0)]
theorem Inv7.facts8 {w : World} {k q : Int} {l : List (Value × List InstV)} {W : World} {bx : Nat} (hbx : w.heap.size = bx) (h : Inv7 w k q l W) : W.cell? ⟨bx, 0, none⟩ = some (.int .i64 k) ∧ W.cell? ⟨bx, 1, none⟩ = some (.int .i64 q) := by
  subst hbx
  exact ⟨(blockC h.box).1 0, (blockC h.box).1 1⟩
theorem Inv7.five {w : World} {k q : Int} {l : List (Value × List InstV)} {W : World} {bx : Nat} (hbx : w.heap.size = bx) (h : Inv7 w k q l W) (v0 v1 v2 v3 v4 : Value) :
    Inv7 w k q l (((((W.setCell ⟨bx + 1, 0, none⟩ v0).setCell ⟨bx + 1, 1, none⟩ v1).setCell ⟨bx + 1, 2, none⟩ v2).setCell ⟨bx + 1, 3, none⟩ v3).setCell ⟨bx + 1, 4, none⟩ v4) := by
  subst hbx
  exact ((((h.set (p := ⟨w.heap.size + 1, 0, none⟩) v0 rfl (by simp) rfl).set (p := ⟨w.heap.size + 1, 1, none⟩) v1 rfl (by simp) rfl).set (p := ⟨w.heap.size + 1, 2, none⟩) v2 rfl (by simp) rfl).set (p := ⟨w.heap.size + 1, 3, none⟩) v3 rfl (by simp) rfl).set (p := ⟨w.heap.size + 1, 4, none⟩) v4 rfl (by simp) rfl
set_option maxRecDepth 100000 in
set_option maxHeartbeats 400000 in
theorem refSystem_ok (n k q : Int) (hp : PoolOk k q) (h0 : 0 ≤ n) (h1 : n ≤ 1024) (w : World) : Calls Try.prog 8 #[.int .i64 n, .agg #[.int .i64 k, .int .i64 q]] w fun e w' => ∃ v, e = .returned (.tuple #[v, .int .i64 0]) ∧ SysOk w' v n k q ∧ Below w.heap.size w w' := by
  have HV := Lib.hid (refBuffers_any k q)
  rw [show poolE k q = 0 by unfold poolE; rw [if_pos hp]] at HV
  obtain ⟨bq, hbq⟩ : ∃ bq, poolB k q = bq := ⟨_, rfl⟩
  rw [hbq] at HV
  obtain ⟨bx, hbx⟩ : ∃ bx, w.heap.size = bx := ⟨_, rfl⟩
  go_enter Try.func8, Try.ntmps8
  go_wp2_with fail
  refine (HV.out _).mono ?_; rintro r w2 ⟨rfl, hb2⟩
  have hs2 := hb2.size
  simp at hs2
  have hI : Inv7 w k q [] w2 := ⟨below_alloc_then _ (below_alloc_then _ hb2), by omega, (hb2.block _ (by simp; omega)).trans ((Below.heap_alloc _ _ _ (by simp)).trans (World.alloc_heap_new _ _)), ⟨_, _, _, _, _, (hb2.block _ (by simp)).trans (World.alloc_heap_new_at _ _ (by simp))⟩, fun p hp => by cases hp⟩
  clear hb2
  iterate 3
    go_wp2_with fail
    refine (inst_any _ _ _ _ _).mono ?_; rintro r w' ⟨rfl, hb⟩
    replace hI := hI.next hb
    clear hb
  obtain ⟨b8, hb8⟩ : ∃ b8, w'.heap.size = b8 := ⟨_, rfl⟩
  replace hI := (hI.next ((Below.refl _ _).alloc (Nat.le_refl _) _)).more (v := .slice (some ⟨b8, 0, none⟩) 3 3) (L := closeL) ⟨_, rfl, World.alloc_heap_new_at _ _ hb8.symm⟩
  have HI := Lib.hid (hI.next (W' := (World.alloc _ _).drew) ⟨rfl, rfl, rfl, Nat.le_refl _, fun _ _ => rfl⟩)
  clear hI
  go_wp2_with fail
  refine wp_region_inv (ds := [29, 30, 31, 32, 33, 34, 35, 36, 37, 38, 39, 40, 41, 42, 43, 44, 45, 5]) (R := Inv7 w k q [(.slice (some ⟨b8, 0, none⟩) 3 3, closeL)]) (Good := Good8 bx n k q bq (goods8 bx n k q bq (.slice (some ⟨b8, 0, none⟩) 3 3))) rfl (by decide) (by kernel_rfl) (by kernel_rfl) ?_ ?_ ?_ ?_
  case refine_1 => exact HI.out
  case refine_2 =>
    refine allAt_spec (p := _) ?_
    refine allAt_cons ?_ (allAt_cons ?_ (allAt_cons ?_ (allAt_cons ?_ (allAt_cons ?_ (allAt_cons ?_ (allAt_cons ?_ (allAt_cons ?_ (allAt_cons ?_ (allAt_cons ?_ (allAt_cons ?_ (allAt_cons ?_ (allAt_cons ?_ (allAt_cons ?_ (allAt_cons ?_ (allAt_cons ?_ (allAt_cons ?_ (allAt_cons ?_ (allAt_cons ?_ (allAt_nil)))))))))))))))))))
    · intro x W hR hdep K hK
      have cX := hR.facts8 hbx
      have c0 := cX.1
      have c1 := cX.2
      clear cX
      clear hdep
      simp only [lay, Act.put, List.setIfInBounds_toArray, List.set_cons_zero, List.set_cons_succ] at hK ⊢
      go_simp
      exact hK _ _ hR (fun _ _ _ h => h) rfl
    · intro x W hR hdep K hK
      have g0 : (GP.holds n k q bq (.val (.pointer (some ⟨bx, 0, none⟩))) (x 29) W) := hdep ⟨0, .data⟩ (by simp) rfl _ rfl
      change x 29 = _ at g0
      have cX := hR.facts8 hbx
      have c0 := cX.1
      have c1 := cX.2
      clear cX
      clear hdep
      simp only [lay, Act.put, List.setIfInBounds_toArray, List.set_cons_zero, List.set_cons_succ, g0] at hK ⊢
      go_simp
      exact hK _ _ hR (fun _ _ _ h => h) rfl
    · intro x W hR hdep K hK
      have g0 : (GP.holds n k q bq (.val (.int .i64 k)) (x 30) W) := hdep ⟨1, .data⟩ (by simp) rfl _ rfl
      change x 30 = _ at g0
      have cX := hR.facts8 hbx
      have c0 := cX.1
      have c1 := cX.2
      clear cX
      clear hdep
      simp only [lay, Act.put, List.setIfInBounds_toArray, List.set_cons_zero, List.set_cons_succ, g0] at hK ⊢
      go_simp
      refine (combiner_any k W).mono ?_
      rintro r w' ⟨v, rfl, hv, hb⟩
      exact hK _ _ (hR.next hb) (good8_below _ hb _) hv
    · intro x W hR hdep K hK
      have cX := hR.facts8 hbx
      have c0 := cX.1
      have c1 := cX.2
      clear cX
      clear hdep
      simp only [lay, Act.put, List.setIfInBounds_toArray, List.set_cons_zero, List.set_cons_succ] at hK ⊢
      go_simp
      refine (worker_any W).mono ?_
      rintro r w' ⟨v, rfl, hv, hb⟩
      exact hK _ _ (hR.next hb) (good8_below _ hb _) hv
    · intro x W hR hdep K hK
      have cX := hR.facts8 hbx
      have c0 := cX.1
      have c1 := cX.2
      clear cX
      clear hdep
      simp only [lay, Act.put, List.setIfInBounds_toArray, List.set_cons_zero, List.set_cons_succ] at hK ⊢
      go_simp
      exact hK _ _ hR (fun _ _ _ h => h) rfl
    · intro x W hR hdep K hK
      have cX := hR.facts8 hbx
      have c0 := cX.1
      have c1 := cX.2
      clear cX
      clear hdep
      simp only [lay, Act.put, List.setIfInBounds_toArray, List.set_cons_zero, List.set_cons_succ] at hK ⊢
      go_simp
      exact hK _ _ hR (fun _ _ _ h => h) rfl
    · intro x W hR hdep K hK
      have g0 : (GP.holds n k q bq (.val (.int .i64 bq)) (x 33) W) := hdep ⟨4, .data⟩ (by simp) rfl _ rfl
      change x 33 = _ at g0
      have g1 : (GP.holds n k q bq (.val (.int .i64 n)) (x 34) W) := hdep ⟨5, .data⟩ (by simp) rfl _ rfl
      change x 34 = _ at g1
      have cX := hR.facts8 hbx
      have c0 := cX.1
      have c1 := cX.2
      clear cX
      clear hdep
      simp only [lay, Act.put, List.setIfInBounds_toArray, List.set_cons_zero, List.set_cons_succ, g0, g1] at hK ⊢
      go_simp
      refine (feeder_any bq n W).mono ?_
      rintro r w' ⟨v, rfl, hv, hb⟩
      exact hK _ _ (hR.next hb) (good8_below _ hb _) hv
    · intro x W hR hdep K hK
      have cX := hR.facts8 hbx
      have c0 := cX.1
      have c1 := cX.2
      clear cX
      clear hdep
      simp only [lay, Act.put, List.setIfInBounds_toArray, List.set_cons_zero, List.set_cons_succ] at hK ⊢
      go_simp
      exact hK _ _ hR (fun _ _ _ h => h) rfl
    · intro x W hR hdep K hK
      have g0 : (GP.holds n k q bq (.insts (combL k)) (x 31) W) := hdep ⟨2, .data⟩ (by simp) rfl _ rfl
      have g1 : (GP.holds n k q bq (.insts workL) (x 32) W) := hdep ⟨3, .data⟩ (by simp) rfl _ rfl
      have g2 : (GP.holds n k q bq (.insts (feedL bq n)) (x 35) W) := hdep ⟨6, .data⟩ (by simp) rfl _ rfl
      have g3 : (GP.holds n k q bq (.val (.slice (some ⟨b8, 0, none⟩) 3 3)) (x 36) W) := hdep ⟨7, .data⟩ (by simp) rfl _ rfl
      change x 36 = _ at g3
      have cX := hR.facts8 hbx
      have c0 := cX.1
      have c1 := cX.2
      clear cX
      clear hdep
      refine Exists.elim (InstsAt.ex g0) fun p0 e0 => ?_
      change x 31 = .slice (some ⟨p0, 0, none⟩) 15 15 at e0
      rw [e0] at g0
      refine Exists.elim (InstsAt.ex g1) fun p1 e1 => ?_
      change x 32 = .slice (some ⟨p1, 0, none⟩) 8 8 at e1
      rw [e1] at g1
      refine Exists.elim (InstsAt.ex g2) fun p2 e2 => ?_
      change x 35 = .slice (some ⟨p2, 0, none⟩) 19 19 at e2
      rw [e2] at g2
      simp only [lay, Act.put, List.setIfInBounds_toArray, List.set_cons_zero, List.set_cons_succ, g3, e0, e1, e2] at hK ⊢
      go_simp
      have hcl := hR.held _ (.head _)
      have HB := (Below.refl W.heap.size W).alloc (Nat.le_refl _) (.cells #[.slice (some ⟨p0, 0, none⟩) 15 15, .slice (some ⟨p1, 0, none⟩) 8 8, .slice (some ⟨p2, 0, none⟩) 19 19, .slice (some ⟨b8, 0, none⟩) 3 3] 53 (0, 0))
      exact hK _ _ (hR.next ((Below.refl _ _).alloc (Nat.le_refl _) _)) (good8_below _ ((Below.refl _ _).alloc (Nat.le_refl _) _) _) ⟨W.heap.size, _, _, _, _, rfl, World.alloc_heap_new _ _, InstsAt.below g0 HB, InstsAt.below g1 HB, InstsAt.below g2 HB, InstsAt.below hcl HB⟩
    · intro x W hR hdep K hK
      have cX := hR.facts8 hbx
      have c0 := cX.1
      have c1 := cX.2
      clear cX
      clear hdep
      simp only [lay, Act.put, List.setIfInBounds_toArray, List.set_cons_zero, List.set_cons_succ] at hK ⊢
      go_simp
      exact hK _ _ hR (fun _ _ _ h => h) rfl
    · intro x W hR hdep K hK
      have g0 : (GP.holds n k q bq (.val (.pointer (some ⟨bx, 1, none⟩))) (x 38) W) := hdep ⟨9, .data⟩ (by simp) rfl _ rfl
      change x 38 = _ at g0
      have cX := hR.facts8 hbx
      have c0 := cX.1
      have c1 := cX.2
      clear cX
      clear hdep
      simp only [lay, Act.put, List.setIfInBounds_toArray, List.set_cons_zero, List.set_cons_succ, g0] at hK ⊢
      go_simp
      exact hK _ _ hR (fun _ _ _ h => h) rfl
    · intro x W hR hdep K hK
      have cX := hR.facts8 hbx
      have c0 := cX.1
      have c1 := cX.2
      clear cX
      clear hdep
      simp only [lay, Act.put, List.setIfInBounds_toArray, List.set_cons_zero, List.set_cons_succ] at hK ⊢
      go_simp
      exact hK _ _ hR (fun _ _ _ h => h) rfl
    · intro x W hR hdep K hK
      have g0 : (GP.holds n k q bq (.val (.pointer (some ⟨bx, 1, none⟩))) (x 40) W) := hdep ⟨11, .data⟩ (by simp) rfl _ rfl
      change x 40 = _ at g0
      have cX := hR.facts8 hbx
      have c0 := cX.1
      have c1 := cX.2
      clear cX
      clear hdep
      simp only [lay, Act.put, List.setIfInBounds_toArray, List.set_cons_zero, List.set_cons_succ, g0] at hK ⊢
      go_simp
      exact hK _ _ hR (fun _ _ _ h => h) rfl
    · intro x W hR hdep K hK
      have cX := hR.facts8 hbx
      have c0 := cX.1
      have c1 := cX.2
      clear cX
      clear hdep
      simp only [lay, Act.put, List.setIfInBounds_toArray, List.set_cons_zero, List.set_cons_succ] at hK ⊢
      go_simp
      exact hK _ _ hR (fun _ _ _ h => h) rfl
    · intro x W hR hdep K hK
      have g0 : (GP.holds n k q bq (.val (.int .i64 q)) (x 39) W) := hdep ⟨10, .data⟩ (by simp) rfl _ rfl
      change x 39 = _ at g0
      have g1 : (GP.holds n k q bq (.val (.int .i64 q)) (x 41) W) := hdep ⟨12, .data⟩ (by simp) rfl _ rfl
      change x 41 = _ at g1
      have g2 : (GP.holds n k q bq (.val (.int .i64 bq)) (x 42) W) := hdep ⟨13, .data⟩ (by simp) rfl _ rfl
      change x 42 = _ at g2
      have cX := hR.facts8 hbx
      have c0 := cX.1
      have c1 := cX.2
      clear cX
      clear hdep
      simp only [lay, Act.put, List.setIfInBounds_toArray, List.set_cons_zero, List.set_cons_succ, g0, g1, g2] at hK ⊢
      go_simp
      exact hK _ _ (hR.next ((Below.refl _ _).alloc (Nat.le_refl _) _)) (good8_below _ ((Below.refl _ _).alloc (Nat.le_refl _) _) _) ⟨W.heap.size, rfl, World.alloc_heap_new _ _⟩
    · intro x W hR hdep K hK
      have cX := hR.facts8 hbx
      have c0 := cX.1
      have c1 := cX.2
      clear cX
      clear hdep
      simp only [lay, Act.put, List.setIfInBounds_toArray, List.set_cons_zero, List.set_cons_succ] at hK ⊢
      go_simp
      exact hK _ _ hR (fun _ _ _ h => h) rfl
    · intro x W hR hdep K hK
      have g0 : (GP.holds n k q bq (.progs) (x 37) W) := hdep ⟨8, .data⟩ (by simp) rfl _ rfl
      have g1 : (GP.holds n k q bq (.ints [q, q, bq]) (x 43) W) := hdep ⟨14, .data⟩ (by simp) rfl _ rfl
      have g2 : (GP.holds n k q bq (.val (.int .i64 bq)) (x 44) W) := hdep ⟨15, .data⟩ (by simp) rfl _ rfl
      change x 44 = _ at g2
      have cX := hR.facts8 hbx
      have c0 := cX.1
      have c1 := cX.2
      clear cX
      clear hdep
      refine Exists.elim (ProgsAt.ex g0) fun p0 e0 => ?_
      change x 37 = .slice (some ⟨p0, 0, none⟩) 4 4 at e0
      rw [e0] at g0
      refine Exists.elim (IntsAt.ex g1) fun p1 e1 => ?_
      change x 43 = .slice (some ⟨p1, 0, none⟩) 3 3 at e1
      rw [e1] at g1
      simp only [lay, Act.put, List.setIfInBounds_toArray, List.set_cons_zero, List.set_cons_succ, g2, e0, e1] at hK ⊢
      go_simp
      exact hK _ _ hR (fun _ _ _ h => h) (SysOk.of_progs hbq g0 g1)
    · intro x W hR hdep K hK
      have g0 : (GP.holds n k q bq (.sys) (x 45) W) := hdep ⟨16, .data⟩ (by simp) rfl _ rfl
      have cX := hR.facts8 hbx
      have c0 := cX.1
      have c1 := cX.2
      clear cX
      clear hdep
      replace g0 : SysOk W (x 45) n k q := g0
      have HS := Lib.hid g0
      with_reducible refine store_elim hbq g0 hR.res ?_
      intro pb rb y0 y1 y2 y3 y4 e45 hr
      clear g0
      rw [hbx] at hr
      have cr := (blockC hr).1
      have fr := (blockC hr).2
      have HR := Lib.hid hr
      clear hr
      simp only [lay, Act.put, List.setIfInBounds_toArray, List.set_cons_zero, List.set_cons_succ, e45] at hK ⊢
      go_simp
      refine hK undef _ (hR.five hbx _ _ _ _ _) (good8_keep _ (KeepT.of_set HR.out _ _ _ _ _)) ⟨_, _, _, _, _, five_set HR.out _ _ _ _ _, ?_⟩
      have := HS.out
      rw [e45] at this
      exact SysOk.keep this (KeepT.of_set HR.out _ _ _ _ _)
    · intro x W hR hdep K hK
      have cX := hR.facts8 hbx
      have c0 := cX.1
      have c1 := cX.2
      clear cX
      clear hdep
      simp only [lay, Act.put, List.setIfInBounds_toArray, List.set_cons_zero, List.set_cons_succ] at hK ⊢
      go_simp
      exact hK _ _ hR (fun _ _ _ h => h) rfl
  case refine_3 =>
    refine allAt_spec (p := fun i (o : Oper) => ∀ v W, o.dst = none → Good8 bx n k q bq _ i v W → Good8 bx n k q bq _ i undef W) ?_ |> fun h i o v W hi => h i o hi v W
    refine allAt_cons ?_ (allAt_cons ?_ (allAt_cons ?_ (allAt_cons ?_ (allAt_cons ?_ (allAt_cons ?_ (allAt_cons ?_ (allAt_cons ?_ (allAt_cons ?_ (allAt_cons ?_ (allAt_cons ?_ (allAt_cons ?_ (allAt_cons ?_ (allAt_cons ?_ (allAt_cons ?_ (allAt_cons ?_ (allAt_cons ?_ (allAt_cons ?_ (allAt_cons ?_ (allAt_nil)))))))))))))))))))
    all_goals first | (intro v W h; cases h; done) | exact good8_nil
  case refine_4 =>
    intro x W hR hG
    obtain ⟨v0, v1, v2, v3, v4, hs, hok⟩ : StoredAt W (bx + 1) n k q := hG 17 _ rfl
    have h5 : x 5 = .int .i64 0 := hG 18 _ rfl
    have HS := Lib.hid hs
    have HO := Lib.hid hok
    have HR := Lib.hid hR.below
    clear hG hs hok hR
    simp only [lay, Act.put, List.setIfInBounds_toArray, List.set_cons_zero, List.set_cons_succ, h5]
    go_wp2
    exact bodyPost_ret (sys_results rfl rfl rfl HS.out rfl) rfl ⟨_, rfl, HO.out, HR.out⟩
end Go.Proofs.Ytadkpndfbfjmfaa
