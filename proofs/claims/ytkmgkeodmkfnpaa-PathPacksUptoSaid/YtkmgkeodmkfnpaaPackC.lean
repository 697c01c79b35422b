/- Whether a path fits a tree, by the program. No condition. -/
import Derived.Test.YtkmgkeodmkfnpaaPackA
import Derived.Test.YtkmgkeodmkfnpaaWayE
import Derived.Deep.AppendLies
import Derived.Deep.RegionHeld3
import Derived.Laws.AppendOwnNone
namespace Go.Proofs.Ytkmgkeodmkfnpaa
open Go.ChangeShapes Go.WideShapes Go.ChangeAt Go.RowKit Go.Joins Go.Shelf Go.Maps
attribute [local go_sem] Oper.semAt_some

/-- What is appended: a slice of one-cell elements, nil too. -/
def SrcIs (w : World) (x : Value) (m : Nat) (news : List Value) : Prop :=
  news.length = m ∧ (∀ u ∈ news, u.oneCell' = true) ∧ ((x = .slice none 0 0 ∧ m = 0) ∨ ∃ ad c, x = .slice (some ad) m c ∧ ∀ j u, news[j]? = some u → w.cell? (ad.add j) = some u)
theorem SrcIs.below {w w' : World} {x : Value} {m : Nat} {news : List Value} (h : SrcIs w x m news) (hb : Below w.heap.size w w') : SrcIs w' x m news := by
  refine ⟨h.1, h.2.1, ?_⟩
  rcases h.2.2 with h2 | ⟨ad, c, e, h2⟩
  · exact .inl h2
  · refine .inr ⟨ad, c, e, fun j u hj => ?_⟩
    have := h2 j u hj
    rw [hb.cell (World.block_lt_of_cell? w _ this)]; exact this
theorem RowsAt.src {w : World} {v : Value} {ds : List (List Int)} (h : RowsAt w v ds) : ∃ news, SrcIs w v ds.length news ∧ ∀ j, j < ds.length → ∃ a c, news[j]? = some (.slice a (nthd ds j).length c) := by
  obtain ⟨a, cap, V, rfl, hc, h⟩ := h
  rcases h with rfl | ⟨b, off, rfl, hb, h⟩
  · refine ⟨[], ⟨rfl, by simp, ?_⟩, by simp⟩
    cases a with
    | none => rw [hc rfl]; exact .inl ⟨rfl, rfl⟩
    | some ad => exact .inr ⟨ad, cap, rfl, by simp⟩
  · refine ⟨(List.range ds.length).map V, ⟨by simp, ?_, .inr ⟨⟨b, off, none⟩, cap, rfl, ?_⟩⟩, ?_⟩
    · intro u hu
      obtain ⟨i, hi, rfl⟩ := List.mem_map.1 hu
      obtain ⟨-, a', c', e, -⟩ := h i (List.mem_range.1 hi)
      rw [e]; rfl
    · intro j u hj
      obtain ⟨hj1, rfl⟩ := List.getElem?_eq_some_iff.1 hj
      simp at hj1
      rw [Go.WideShapes.add_plain]
      simpa using (h j hj1).1
    · intro j hj
      obtain ⟨-, a', c', e, -⟩ := h j hj
      exact ⟨a', c', by rw [← e]; simp [hj]⟩
theorem run_append_now {P : Program} {w W : World} {B : Nat} (hB : B = W.heap.size) (hb : Below B W w) (t ty e : TypeId) (i : TypeInfo) (z : Value) (bytes : Nat) (ht : P.underlying t = some (.slice e)) (hi : P.info? e = some i) (hz : i.zero = some z)
    (hsize : i.size = 1) (hby : i.bytes = bytes) (hzs : z.cells.size = 1) (v : Value) (n : Nat) (xs : List Value) (hown : w.ownsRow B e 1 v n xs)
    (x : Value) (m : Nat) (news : List Value) (hsrc : SrcIs w x m news) (h63 : n + m ≤ maxLen) (hbytes : (n + m) * bytes ≤ 140737488355328) :
    ∃ v' w', (Builtin.append_ #[t, t] ty #[v, x]).run P w = .ok v' w' ∧ w'.ownsRow B e 1 v' (n + m) (xs ++ news) ∧ Below B W w' := by
  subst hB
  obtain ⟨h1, h2, h3⟩ := hsrc
  rcases h3 with ⟨rfl, rfl⟩ | ⟨ad, c, rfl, h3⟩
  · obtain rfl : news = [] := List.eq_nil_of_length_eq_zero h1
    exact ⟨v, w, run_append_owned_none w W.heap.size t ty e i 1 ht hi v n xs hown, by simpa using hown, hb⟩
  · obtain ⟨v', w', hr, hown', hgrow, -⟩ := run_append_own (P := P) w W.heap.size t ty e i z 1 bytes ht hi hz hsize hby hzs (by omega) v n xs hown ad m c news (by omega) h3 h2 h63 hbytes hb.size
    exact ⟨v', w', hr, hown', hb.grown hgrow hb.size (fun k e => (hown.lt k e).1)⟩
theorem step_append_now {P : Program} {w : World} {ops : Array Oper} {o : Oper} {a : Act} {K : Act → World → Prop} {Q : Exit → Act → World → Prop} {E : Prop} (hgd : o.guard = none) (s x : Operand) (t : TypeId)
    (ho : o.op = .call { callee := .builtin .append, args := #[s, x], argTypes := #[t, t] }) (W : World) (B : Nat) (hB : B = W.heap.size) (hb : Below B W w)
    (e : TypeId) (i : TypeInfo) (z : Value) (bytes : Nat) (ht : P.underlying t = some (.slice e)) (hi : P.info? e = some i) (hz : i.zero = some z)
    (hsize : i.size = 1) (hby : i.bytes = bytes) (hzs : z.cells.size = 1) (v : Value) (n : Nat) (xs : List Value) (hs : a.eval s = v) (hown : w.ownsRow B e 1 v n xs)
    (u : Value) (m : Nat) (news : List Value) (hx : a.eval x = u) (hsrc : SrcIs w u m news) (h63 : n + m ≤ maxLen) (hbytes : (n + m) * bytes ≤ 140737488355328)
    (h : ∀ v' w', w'.ownsRow B e 1 v' (n + m) (xs ++ news) → Below B W w' → K (a.put o.dst v') w') :
    if Region.wanted o (yielded ops a.tmps) = true then Oper.wp P o a w K Q else E := by
  have hw : Region.wanted o (yielded ops a.tmps) = true := by simp [Region.wanted, hgd]
  rw [if_pos hw]
  obtain ⟨v', w', hr, h2, h3⟩ := run_append_now (P := P) hB hb t o.type e i z bytes ht hi hz hsize hby hzs v n xs hown u m news hsrc h63 hbytes
  unfold Oper.wp execOp
  simp only [ho, resolve, invoke, builtin, Sem.run_bind, Sem.run_pure, Result.andThen_ok, List.map_toArray, List.map_cons, List.map_nil, hs, hx, hr]
  exact h v' w' h2 h3
theorem src_of_own {w : World} {B n : Nat} {e : TypeId} {v : Value} {xs : List Value} (h : w.ownsRow B e 1 v n xs) (h1 : ∀ u ∈ xs, u.oneCell' = true) : SrcIs w v n xs := by
  refine ⟨by have := h.1; omega, h1, ?_⟩
  rcases h.2 with ⟨rfl, rfl⟩ | ⟨g, cap, cur, rfl, -⟩
  · exact .inl ⟨rfl, rfl⟩
  · exact .inr ⟨⟨g, 0, none⟩, cap, rfl, h.cells (g := g) rfl⟩
theorem run_append_src {P : Program} {w W : World} {B : Nat} (hB : B = W.heap.size) (hb : Below B W w) (t ty e : TypeId) (i : TypeInfo) (z : Value) (bytes : Nat) (ht : P.underlying t = some (.slice e)) (hi : P.info? e = some i) (hz : i.zero = some z)
    (hsize : i.size = 1) (hby : i.bytes = bytes) (hzs : z.cells.size = 1) (v : Value) (n : Nat) (xs : List Value) (hown : w.ownsRow B e 1 v n xs)
    (x : Value) (m : Nat) (news : List Value) (hsrc : SrcIs W x m news) (h63 : n + m ≤ maxLen) (hbytes : (n + m) * bytes ≤ 140737488355328) :
    ∃ v' w', (Builtin.append_ #[t, t] ty #[v, x]).run P w = .ok v' w' ∧ w'.ownsRow B e 1 v' (n + m) (xs ++ news) ∧ Below B W w' := by
  subst hB
  exact run_append_now rfl hb t ty e i z bytes ht hi hz hsize hby hzs v n xs hown x m news (hsrc.below hb) h63 hbytes
theorem wp_append_src {P : Program} {w : World} {o : Oper} {a : Act} {K : Act → World → Prop} {Q : Exit → Act → World → Prop} (s x : Operand) (t : TypeId)
    (ho : o.op = .call { callee := .builtin .append, args := #[s, x], argTypes := #[t, t] }) (W : World) (B : Nat) (hB : B = W.heap.size) (hb : Below B W w)
    (e : TypeId) (i : TypeInfo) (z : Value) (bytes : Nat) (ht : P.underlying t = some (.slice e)) (hi : P.info? e = some i) (hz : i.zero = some z)
    (hsize : i.size = 1) (hby : i.bytes = bytes) (hzs : z.cells.size = 1) (v : Value) (n : Nat) (xs : List Value) (hs : a.eval s = v) (hown : w.ownsRow B e 1 v n xs)
    (u : Value) (m : Nat) (news : List Value) (hx : a.eval x = u) (hsrc : SrcIs W u m news) (h63 : n + m ≤ maxLen) (hbytes : (n + m) * bytes ≤ 140737488355328)
    (h : ∀ v' w', w'.ownsRow B e 1 v' (n + m) (xs ++ news) → Below B W w' → K (a.put o.dst v') w') : o.wp P a w K Q := by
  obtain ⟨v', w', hr, h2, h3⟩ := run_append_src (P := P) hB hb t o.type e i z bytes ht hi hz hsize hby hzs v n xs hown u m news hsrc h63 hbytes
  unfold Oper.wp execOp
  simp only [ho, resolve, invoke, builtin, Sem.run_bind, Sem.run_pure, Result.andThen_ok, List.map_toArray, List.map_cons, List.map_nil, hs, hx, hr]
  exact h v' w' h2 h3
theorem step_append_src {P : Program} {w : World} {ops : Array Oper} {o : Oper} {a : Act} {K : Act → World → Prop} {Q : Exit → Act → World → Prop} {E : Prop} (hgd : o.guard = none) (s x : Operand) (t : TypeId)
    (ho : o.op = .call { callee := .builtin .append, args := #[s, x], argTypes := #[t, t] }) (W : World) (B : Nat) (hB : B = W.heap.size) (hb : Below B W w)
    (e : TypeId) (i : TypeInfo) (z : Value) (bytes : Nat) (ht : P.underlying t = some (.slice e)) (hi : P.info? e = some i) (hz : i.zero = some z)
    (hsize : i.size = 1) (hby : i.bytes = bytes) (hzs : z.cells.size = 1) (v : Value) (n : Nat) (xs : List Value) (hs : a.eval s = v) (hown : w.ownsRow B e 1 v n xs)
    (u : Value) (m : Nat) (news : List Value) (hx : a.eval x = u) (hsrc : SrcIs W u m news) (h63 : n + m ≤ maxLen) (hbytes : (n + m) * bytes ≤ 140737488355328)
    (h : ∀ v' w', w'.ownsRow B e 1 v' (n + m) (xs ++ news) → Below B W w' → K (a.put o.dst v') w') :
    if Region.wanted o (yielded ops a.tmps) = true then Oper.wp P o a w K Q else E := by
  have hw : Region.wanted o (yielded ops a.tmps) = true := by simp [Region.wanted, hgd]
  rw [if_pos hw]
  exact wp_append_src s x t ho W B hB hb e i z bytes ht hi hz hsize hby hzs v n xs hs hown u m news hx hsrc h63 hbytes h
theorem app_get {b a : List (List Int)} {nu nv : List Value} (hl : nu.length = b.length) (hu : ∀ j, j < b.length → ∃ x c, nu[j]? = some (.slice x (nthd b j).length c)) (hv : ∀ j, j < a.length → ∃ x c, nv[j]? = some (.slice x (nthd a j).length c)) :
    ∀ k, k < b.length + a.length → ∃ x c, (nu ++ nv)[k]? = some (.slice x (nthd (b ++ a) k).length c) := by
  intro k hk
  by_cases h : k < b.length
  · obtain ⟨x, c, e⟩ := hu k h
    refine ⟨x, c, ?_⟩
    rw [List.getElem?_append_left (by omega), e]
    unfold nthd; rw [List.getD_eq_getElem?_getD, List.getD_eq_getElem?_getD, List.getElem?_append_left h]
  · obtain ⟨x, c, e⟩ := hv (k - b.length) (by omega)
    refine ⟨x, c, ?_⟩
    rw [List.getElem?_append_right (by omega), hl, e]
    unfold nthd; rw [List.getD_eq_getElem?_getD, List.getD_eq_getElem?_getD, List.getElem?_append_right (by omega)]
theorem all_nthd {ds : List (List Int)} {i : Int} (h : ∀ k, k < ds.length → ((nthd ds k).length : Int) = i) : ∀ d ∈ ds, (d.length : Int) = i := by
  intro d hd
  obtain ⟨k, hk, rfl⟩ := List.mem_iff_getElem.1 hd
  have := h k hk
  unfold nthd at this
  rwa [List.getD_eq_getElem?_getD, List.getElem?_eq_getElem hk] at this
theorem nthd_mem {ds : List (List Int)} {k : Nat} (h : k < ds.length) : nthd ds k ∈ ds := by
  unfold nthd; rw [List.getD_eq_getElem?_getD, List.getElem?_eq_getElem h]; exact List.getElem_mem h
/-- A step has as many digests as there are children beside, each of the tree's inner length. -/
def StepFits (inner : Int) (ch af : Nat → Int) (ss : List StepV) (j : Nat) : Prop := ((nths ss j).1.length : Int) = ch j ∧ ((nths ss j).2.length : Int) = af j ∧ ∀ d ∈ (nths ss j).1 ++ (nths ss j).2, (d.length : Int) = inner
def FitsP (inner : Int) (m : Nat) (ch af : Nat → Int) (ss : List StepV) : Prop := ss.length = m ∧ ∀ j, j < m → StepFits inner ch af ss j
/-- A stage's cells. -/
def StageAt (w : World) (g : Nat) (R A F T ch : Nat → Int) (la ro : Nat → Bool) (j : Nat) : Prop :=
  w.cell? ⟨g, j * 7, none⟩ = some (.int .i64 (R j)) ∧ w.cell? ⟨g, j * 7 + 1, none⟩ = some (.int .u64 (A j)) ∧ w.cell? ⟨g, j * 7 + 2, none⟩ = some (.int .u64 (F j)) ∧ w.cell? ⟨g, j * 7 + 3, none⟩ = some (.int .u64 (T j)) ∧
    w.cell? ⟨g, j * 7 + 4, none⟩ = some (.bool (la j)) ∧ w.cell? ⟨g, j * 7 + 5, none⟩ = some (.bool (ro j)) ∧ w.cell? ⟨g, j * 7 + 6, none⟩ = some (.int .u64 (ch j))
theorem StageAt.below {w w' : World} {g : Nat} {R A F T ch : Nat → Int} {la ro : Nat → Bool} {j : Nat} (h : StageAt w g R A F T ch la ro j) (hg : g < w.heap.size) (hb : Below w.heap.size w w') : StageAt w' g R A F T ch la ro j := by
  obtain ⟨h0, h1, h2, h3, h4, h5, h6⟩ := h
  exact ⟨(hb.cell (p := ⟨g, _, none⟩) hg).trans h0, (hb.cell (p := ⟨g, _, none⟩) hg).trans h1, (hb.cell (p := ⟨g, _, none⟩) hg).trans h2, (hb.cell (p := ⟨g, _, none⟩) hg).trans h3, (hb.cell (p := ⟨g, _, none⟩) hg).trans h4, (hb.cell (p := ⟨g, _, none⟩) hg).trans h5, (hb.cell (p := ⟨g, _, none⟩) hg).trans h6⟩
/-- A function's boxes of a tree and a path, and all that was there. -/
def Boxes (w : World) (ti : Int) (u : Value) (wr : World) : Prop := Below w.heap.size w wr ∧ w.heap.size + 2 ≤ wr.heap.size ∧ wr.cell? ⟨w.heap.size, 5, none⟩ = some (.int .i64 ti) ∧ wr.cell? ⟨w.heap.size + 1, 2, none⟩ = some u
theorem Boxes.below {w wr w' : World} {ti : Int} {u : Value} (h : Boxes w ti u wr) (hb : Below wr.heap.size wr w') : Boxes w ti u w' := by
  obtain ⟨h1, h2, h3, h4⟩ := h
  have := hb.size
  exact ⟨h1.trans (hb.mono (by omega)), by omega, (hb.cell (p := ⟨w.heap.size, 5, none⟩) (by show w.heap.size < wr.heap.size; omega)).trans h3, (hb.cell (p := ⟨w.heap.size + 1, 2, none⟩) (by show w.heap.size + 1 < wr.heap.size; omega)).trans h4⟩
theorem boxes_start (w : World) {cs1 cs2 : Array Value} {T1 T2 : TypeId} {ti : Int} {u : Value} (h1 : cs1[5]? = some (.int .i64 ti)) (h2 : cs2[2]? = some u) : Boxes w ti u ((w.alloc (.cells cs1 T1)).alloc (.cells cs2 T2)) := by
  refine ⟨((Below.refl _ _).alloc (Nat.le_refl _) _).alloc (by simp) _, by simp, ?_, ?_⟩
  · rw [cell_of_heap ((Below.heap_alloc (w.alloc (.cells cs1 T1)) _ w.heap.size (by simp)).trans (World.alloc_heap_new w _)) 5]; exact h1
  · have e : (w.alloc (.cells cs1 T1)).heap.size = w.heap.size + 1 := by simp
    rw [← e, cell_of_heap (World.alloc_heap_new (w.alloc (.cells cs1 T1)) _) 2]; exact h2
theorem info_bytes : (Try.prog.info? 24).map (fun i => (i.zero, i.size, i.bytes)) = some (some (.slice none 0 0), 1, 24) := by kernel_rfl
theorem letter_world {P : Program} {c : Code} {Q : Exit → Act → World → Prop} {a : Act} {w : World} (h : ∀ W, W = w → Code.wp P c Q a W) : Code.wp P c Q a w := h w rfl
set_option maxRecDepth 100000 in
theorem fits_len (t : TreeV) (total leaf : Nat) (u : Value) (ss : List StepV) (w : World) (hs : StepsAt w u ss) (ho : StepsOk 1048576 ss) (m : Nat) (lv : Option Addr) (cap : Nat) (hm : m ≤ 255) (hne : ss.length ≠ m) :
    Calls Try.prog 48 #[t.val, .agg #[.int .u64 total, .int .u64 leaf, u], .slice lv m cap] w fun e w' => e = .returned (.bool false) ∧ Below w.heap.size w w' := by
  obtain ⟨a, c, U, V, rfl, -, -⟩ := hs
  have hl := ho.1
  have q1 : ((ss.length : Int) == (m : Int)) = false := by rw [beq_eq_false_iff_ne]; omega
  have q2 : (ss.length == m) = false := by rw [beq_eq_false_iff_ne]; omega
  have q3 : ((ss.length : Int) != (m : Int)) = true := by rw [bne_iff_ne]; omega
  have q4 : (ss.length != m) = true := by rw [bne_iff_ne]; omega
  unfold TreeV.val
  go_enter Try.func48, Try.ntmps48
  go_wp2
  go_ret
  exact ⟨rfl, ((Below.refl _ _).alloc (Nat.le_refl _) _).alloc (by simp) _⟩
set_option maxRecDepth 100000 in
set_option maxHeartbeats 1000000 in
theorem fits_same (t : TreeV) (total leaf : Nat) (u : Value) (ss : List StepV) (w : World) (hs : StepsAt w u ss) (ho : StepsOk 1048576 ss) (g cap : Nat) (hg : g < w.heap.size) (hm : ss.length ≤ 255) (hm0 : 1 ≤ ss.length)
    (R A F T ch af : Nat → Int) (la ro : Nat → Bool) (HC : Hid (∀ j, j < ss.length → StageAt w g R A F T ch la ro j))
    (HF : Hid (∀ j, j < ss.length → 0 ≤ F j ∧ F j ≤ T j ∧ T j ≤ 18446744073709551615 ∧ 0 ≤ ch j ∧ 0 ≤ af j ∧ af j = T j - F j - ch j - 1)) :
    Calls Try.prog 48 #[t.val, .agg #[.int .u64 total, .int .u64 leaf, u], .slice (some ⟨g, 0, none⟩) ss.length cap] w fun e w' => ∃ b : Bool, e = .returned (.bool b) ∧ (b = true ↔ ∀ j, j < ss.length → StepFits t.i ch af ss j) ∧ Below w.heap.size w w' := by
  obtain ⟨i0, hi, hz0, hz1, hz2⟩ := info_parts info_bytes
  obtain ⟨a, c, U, V, rfl, -, h⟩ := hs
  obtain ⟨b, off, rfl, hbw, h'⟩ := h.resolve_left (fun e => by rw [e] at hm0; simp at hm0)
  have HU := Lib.hid h'
  clear h h'
  have HO := Lib.hid ho.2
  unfold TreeV.val
  go_enter Try.func48, Try.ntmps48
  go_wp2_with fail
  go_loopw [21] (fun i wr => ∃ j : Nat, i = .int .i64 j ∧ j ≤ ss.length ∧ Boxes w t.i (.slice (some ⟨b, off, none⟩) ss.length c) wr ∧ Hid (∀ j', j' < j → StepFits t.i ch af ss j')) (fun i _ => ss.length - (intOf i).toNat)
  case atStart => exact ⟨0, rfl, by omega, boxes_start w rfl rfl, Lib.hid (fun j' h => absurd h (Nat.not_lt_zero _))⟩
  case round =>
    obtain ⟨j, rfl, hj, hx, HS⟩ := hrel
    obtain ⟨hB, hsr, ht5, hp2⟩ := id hx
    have hgr : g < wr.heap.size := by omega
    have hbr : b < wr.heap.size := by omega
    have hwr : w.heap.size < wr.heap.size := by omega
    have hwr1 : w.heap.size + 1 < wr.heap.size := by omega
    by_cases hlt : j < ss.length
    · obtain ⟨c0, c1, c2, c3, c4, c5, c6⟩ := (HC.out j hlt).below hg hB
      obtain ⟨cu, cv, ru, rv⟩ := HU.out j hlt
      have hmem : nths ss j ∈ ss := by unfold nths; rw [List.getD_eq_getElem?_getD, List.getElem?_eq_getElem hlt]; exact List.getElem_mem hlt
      obtain ⟨⟨lu, -⟩, lv, -⟩ := HO.out _ hmem
      obtain ⟨f1, f2, f3, f4, f5, f6⟩ := HF.out j hlt
      obtain ⟨nu, su, gu⟩ := ru.src
      obtain ⟨nv, sv, gv⟩ := rv.src
      have cu' : wr.cell? ⟨b, off + j * 2, none⟩ = some (U j) := (hB.cell (p := ⟨b, _, none⟩) hbw).trans cu
      have cv' : wr.cell? ⟨b, off + j * 2 + 1, none⟩ = some (V j) := (hB.cell (p := ⟨b, _, none⟩) hbw).trans cv
      have HSU := Lib.hid (su.below hB)
      have HSV := Lib.hid (sv.below hB)
      have HGA := Lib.hid (app_get su.1 gu gv)
      obtain ⟨au, ku, VU, eu, -, -⟩ := ru
      obtain ⟨av, kv, VV, ev, -, -⟩ := rv
      rw [eu] at cu' HSU
      rw [ev] at cv' HSV
      clear su sv gu gv cu cv eu ev
      generalize hlu : (nths ss j).1.length = nb at *
      generalize hlv : (nths ss j).2.length = na at *
      by_cases h1 : (nb : Int) = ch j
      · by_cases h2 : (na : Int) = af j
        · have q1 : ((nb : Int) != ch j) = false := by rw [bne_eq_false_iff_eq]; exact h1
          have q2 : ((na : Int) != T j - F j - ch j - 1) = false := by rw [bne_eq_false_iff_eq]; omega
          have H1 := Lib.hid h1
          have H2 := Lib.hid h2
          clear h1 h2
          go_wp2_with fail
          refine letter_world ?_
          intro W hW
          have hWs : W.heap.size = wr.heap.size + 2 := by rw [hW]; simp
          have hWB : Below wr.heap.size wr W := by rw [hW]; exact ((Below.refl _ _).alloc (Nat.le_refl _) _).alloc (by simp) _
          have cU : W.cell? ⟨wr.heap.size + 1, 0, none⟩ = some (.slice au nb ku) := by
            rw [hW, show wr.heap.size + 1 = (wr.alloc (Obj.cells #[.int .i64 (R j), .int .u64 (A j), .int .u64 (F j), .int .u64 (T j), .bool (la j), .bool (ro j), .int .u64 (ch j)] 89)).heap.size by simp]
            exact cell_of_heap (World.alloc_heap_new _ _) 0
          have cV : W.cell? ⟨wr.heap.size + 1, 1, none⟩ = some (.slice av na kv) := by
            rw [hW, show wr.heap.size + 1 = (wr.alloc (Obj.cells #[.int .i64 (R j), .int .u64 (A j), .int .u64 (F j), .int .u64 (T j), .bool (la j), .bool (ro j), .int .u64 (ch j)] 89)).heap.size by simp]
            exact cell_of_heap (World.alloc_heap_new _ _) 1
          have kW : wr.heap.size + 1 < W.heap.size := by omega
          have HSU' := HSU.out.below hWB
          have HSV' := HSV.out.below hWB
          clear hW
          go_region_held3 (fun w' => w'.cell? ⟨wr.heap.size + 1, 0, none⟩ = some (.slice au nb ku) ∧ w'.cell? ⟨wr.heap.size + 1, 1, none⟩ = some (.slice av na kv))
            (first | go_keep | exact ⟨(hbB.cell (p := ⟨wr.heap.size + 1, 0, none⟩) kW).trans cU, (hbB.cell (p := ⟨wr.heap.size + 1, 1, none⟩) kW).trans cV⟩ | exact ⟨(hbA.cell (p := ⟨wr.heap.size + 1, 0, none⟩) kW).trans cU, (hbA.cell (p := ⟨wr.heap.size + 1, 1, none⟩) kW).trans cV⟩)
            (first
              | (refine step_append_src (by rfl) _ _ _ (by rfl) W W.heap.size rfl (by first | exact Below.refl _ _ | exact (Below.refl _ _).drew | exact (Below.refl _ _).drew.drew | exact (Below.refl _ _).drew.drew.drew) 24 i0 (.slice none 0 0) 24 Try.underlying107 hi hz0 hz1 hz2 rfl (.slice none 0 0) 0 [] (by rfl) (World.ownsRow_nil _ _ _ _) (.slice au nb ku) nb nu (by rfl) HSU' (by unfold maxLen; omega) (by omega) ?_; intro vA wA hownA hbA)
              | (refine step_append_src (by rfl) _ _ _ (by rfl) W W.heap.size rfl (by first | exact hbA | exact hbA.drew | exact hbA.drew.drew | exact hbA.drew.drew.drew) 24 i0 (.slice none 0 0) 24 Try.underlying107 hi hz0 hz1 hz2 rfl vA (0 + nb) ([] ++ nu) (by rfl) (by first | exact hownA | exact hownA.drew | exact hownA.drew.drew | exact hownA.drew.drew.drew) (.slice av na kv) na nv (by rfl) HSV' (by unfold maxLen; omega) (by omega) ?_; intro vB wB hownB hbB; obtain ⟨gB, kB, rfl⟩ := ownsRow_any hownB))
          have hownB' : wB.ownsRow W.heap.size 24 1 (.slice gB (nb + na) kB) (nb + na) (nu ++ nv) := by simpa using hownB
          have hWwB : Below wr.heap.size wr wB := hWB.trans (hbB.mono (by omega))
          have hxB := hx.below hWwB
          have htB := hxB.2.2.1
          clear hownB hownA hbA
          go_wp2_with fail
          go_loopw [64] (fun i wi => ∃ k : Nat, i = .int .i64 k ∧ wB = wi ∧ k ≤ nb + na ∧ Hid (∀ k', k' < k → ((nthd ((nths ss j).1 ++ (nths ss j).2) k').length : Int) = t.i)) (fun i _ => nb + na - (intOf i).toNat)
          case atStart => exact ⟨0, rfl, rfl, by omega, Lib.hid (fun k h => absurd h (Nat.not_lt_zero _))⟩
          case round =>
            obtain ⟨k, rfl, rfl, hk, HK⟩ := hrel
            by_cases hlk : k < nb + na
            · obtain ⟨g', c', e⟩ := ownsRow_form hownB' (by omega)
              simp only [Value.slice.injEq, true_and] at e
              obtain ⟨rfl, rfl⟩ := e
              obtain ⟨x, cx, ex⟩ := HGA.out k (by omega)
              have hcx := (hownB'.cellAt k (by omega)).trans ex
              by_cases h3 : ((nthd ((nths ss j).1 ++ (nths ss j).2) k).length : Int) = t.i
              · have q3 : (((nthd ((nths ss j).1 ++ (nths ss j).2) k).length : Int) != t.i) = false := by rw [bne_eq_false_iff_eq]; exact h3
                have H3 := Lib.hid h3
                clear h3
                generalize hln : (nthd ((nths ss j).1 ++ (nths ss j).2) k).length = ln at *
                go_wp2
                refine ⟨⟨k + 1, rfl, by trivial, by omega, Lib.hid fun k' hk' => ?_⟩, by simp [intOf]; omega⟩
                by_cases e : k' = k
                · rw [e, hln]; exact H3.out
                · exact HK.out k' (by omega)
              · have q3 : (((nthd ((nths ss j).1 ++ (nths ss j).2) k).length : Int) != t.i) = true := by rw [bne_iff_ne]; exact h3
                have H3 := Lib.hid h3
                clear h3
                generalize hln : (nthd ((nths ss j).1 ++ (nths ss j).2) k).length = ln at *
                go_wp2
                go_ret
                refine ⟨false, rfl, ⟨fun e => absurd e (by simp), fun h => ?_⟩, hxB.1⟩
                exact absurd ((h j hlt).2.2 _ (nthd_mem (k := k) (by rw [List.length_append, hlu, hlv]; exact hlk))) (by rw [hln]; exact H3.out)
            · obtain rfl : k = nb + na := by omega
              go_wp2
              refine ⟨⟨j + 1, rfl, by omega, hxB, Lib.hid fun j' hj' => ?_⟩, by simp [intOf]; omega⟩
              by_cases e : j' = j
              · rw [e]
                exact ⟨by rw [hlu]; exact H1.out, by rw [hlv]; exact H2.out, all_nthd (by rw [List.length_append, hlu, hlv]; exact HK.out)⟩
              · exact HS.out j' (by omega)
        · have q1 : ((nb : Int) != ch j) = false := by rw [bne_eq_false_iff_eq]; exact h1
          have q2 : ((na : Int) != T j - F j - ch j - 1) = true := by rw [bne_iff_ne]; omega
          have H2 := Lib.hid h2
          clear h1 h2
          go_wp2
          go_ret
          exact ⟨false, rfl, ⟨fun e => absurd e (by simp), fun h => absurd ((h j hlt).2.1) (by rw [hlv]; exact H2.out)⟩, (hB.alloc (by omega) _).alloc (by simp; omega) _⟩
      · have q1 : ((nb : Int) != ch j) = true := by rw [bne_iff_ne]; exact h1
        have H1 := Lib.hid h1
        clear h1
        go_wp2
        go_ret
        exact ⟨false, rfl, ⟨fun e => absurd e (by simp), fun h => absurd ((h j hlt).1) (by rw [hlu]; exact H1.out)⟩, (hB.alloc (by omega) _).alloc (by simp; omega) _⟩
    · obtain rfl : j = ss.length := by omega
      go_wp2
      go_ret
      exact ⟨true, rfl, ⟨fun _ => HS.out, fun _ => rfl⟩, hB⟩
/-- Every path, against the stages of a way. -/
theorem fits_any (t : TreeV) (total leaf : Nat) (u : Value) (ss : List StepV) (w : World) (hs : StepsAt w u ss) (ho : StepsOk 1048576 ss) (g cap m : Nat) (hg : g < w.heap.size) (hm : m ≤ 255) (hm0 : 1 ≤ m)
    (R A F T ch af : Nat → Int) (la ro : Nat → Bool) (HC : ∀ j, j < m → StageAt w g R A F T ch la ro j)
    (HF : ∀ j, j < m → 0 ≤ F j ∧ F j ≤ T j ∧ T j ≤ 18446744073709551615 ∧ 0 ≤ ch j ∧ 0 ≤ af j ∧ af j = T j - F j - ch j - 1) :
    Calls Try.prog 48 #[t.val, .agg #[.int .u64 total, .int .u64 leaf, u], .slice (some ⟨g, 0, none⟩) m cap] w fun e w' => ∃ b : Bool, e = .returned (.bool b) ∧ (b = true ↔ FitsP t.i m ch af ss) ∧ Below w.heap.size w w' := by
  by_cases h : ss.length = m
  · subst h
    refine (fits_same t total leaf u ss w hs ho g cap hg hm hm0 R A F T ch af la ro (Lib.hid HC) (Lib.hid HF)).mono ?_
    rintro e w' ⟨b, rfl, hb, hw⟩
    exact ⟨b, rfl, hb.trans ⟨fun h => ⟨rfl, h⟩, fun h => h.2⟩, hw⟩
  · refine (fits_len t total leaf u ss w hs ho m _ cap hm h).mono ?_
    rintro e w' ⟨rfl, hw⟩
    exact ⟨false, rfl, ⟨fun e => absurd e (by simp), fun h' => absurd h'.1 h⟩, hw⟩
end Go.Proofs.Ytkmgkeodmkfnpaa
