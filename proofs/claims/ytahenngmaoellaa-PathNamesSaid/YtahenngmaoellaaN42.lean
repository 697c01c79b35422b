/- Whether a path fits a tree, by the program. No condition. -/
import Derived.Test.YtahenngmaoellaaN40
import Derived.Test.YtahenngmaoellaaN41
import Derived.Deep.AppendLies
import Derived.Deep.RegionHeld3
import Derived.Laws.AppendOwnNone
import Derived.BigQuiet
import Derived.Deep.QuietTactic
import Derived.Test.YtahenngmaoellaaN07
import Derived.Maps.AppendAt
set_option linter.all false
set_option maxRecDepth 100000
set_option maxHeartbeats 8000000
namespace Go.Proofs.Ytahenngmaoellaa
open Go.ChangeShapes Go.WideShapes Go.ChangeAt Go.RowKit Go.Joins Go.Shelf Go.Maps
open Go.Lib (hid)
attribute [local go_sem] Oper.semAt_some
/-- What is appended: a slice of one-cell elements, nil too. -/
def pSrcIs (w : World) (x : Value) (m : Nat) (news : List Value) : Prop :=
  news.length = m ∧ (∀ u ∈ news, u.oneCell' = true) ∧ ((x = .slice none 0 0 ∧ m = 0) ∨ ∃ ad c, x = .slice (some ad) m c ∧ ∀ j u, news[j]? = some u → w.cell? (ad.add j) = some u)
theorem pSrcIs.below {w w' : World} {x : Value} {m : Nat} {news : List Value} (h : pSrcIs w x m news) (hb : Below w.heap.size w w') : pSrcIs w' x m news := by
  refine ⟨h.1, h.2.1, ?_⟩
  rcases h.2.2 with h2 | ⟨ad, c, e, h2⟩
  · exact .inl h2
  · refine .inr ⟨ad, c, e, fun j u hj => ?_⟩
    have := h2 j u hj
    rw [hb.cell (World.block_lt_of_cell? w _ this)]; exact this
theorem pRowsAt.src {w : World} {v : Value} {ds : List (List Int)} (h : pRowsAt w v ds) : ∃ news, pSrcIs w v ds.length news ∧ ∀ j, j < ds.length → ∃ a c, news[j]? = some (.slice a (nthd ds j).length c) := by
  obtain ⟨a, cap, V, rfl, hc, h⟩ := h
  rcases h with rfl | ⟨b, off, rfl, hb, h⟩
  · refine ⟨[], ⟨rfl, by simp, ?_⟩, by simp⟩
    cases a with
    | none => rw [hc rfl]; exact .inl ⟨rfl, rfl⟩
    | some ad => exact .inr ⟨ad, cap, rfl, by simp⟩
  · refine ⟨(List.range ds.length).map V, ⟨by simp, ?_, .inr ⟨⟨b, off, none⟩, cap, rfl, ?_⟩⟩, ?_⟩
    · intro u hu
      obtain ⟨i, hi, rfl⟩ := List.mem_map.1 hu
      obtain ⟨-, a', c', e, -⟩ := h i (List.mem_range.1 hi)
      rw [e]; rfl
    · intro j u hj
      obtain ⟨hj1, rfl⟩ := List.getElem?_eq_some_iff.1 hj
      simp at hj1
      rw [Go.WideShapes.add_plain]
      simpa using (h j hj1).1
    · intro j hj
      obtain ⟨-, a', c', e, -⟩ := h j hj
      exact ⟨a', c', by rw [← e]; simp [hj]⟩
theorem pRun_append_now {P : Program} {w W : World} {B : Nat} (hB : B = W.heap.size) (hb : Below B W w) (t ty e : TypeId) (i : TypeInfo) (z : Value) (bytes : Nat) (ht : P.underlying t = some (.slice e)) (hi : P.info? e = some i) (hz : i.zero = some z)
    (hsize : i.size = 1) (hby : i.bytes = bytes) (hzs : z.cells.size = 1) (v : Value) (n : Nat) (xs : List Value) (hown : w.ownsRow B e 1 v n xs)
    (x : Value) (m : Nat) (news : List Value) (hsrc : pSrcIs w x m news) (h63 : n + m ≤ maxLen) (hbytes : (n + m) * bytes ≤ 140737488355328) :
    ∃ v' w', (Builtin.append_ #[t, t] ty #[v, x]).run P w = .ok v' w' ∧ w'.ownsRow B e 1 v' (n + m) (xs ++ news) ∧ Below B W w' := by
  subst hB
  obtain ⟨h1, h2, h3⟩ := hsrc
  rcases h3 with ⟨rfl, rfl⟩ | ⟨ad, c, rfl, h3⟩
  · obtain rfl : news = [] := List.eq_nil_of_length_eq_zero h1
    exact ⟨v, w, run_append_owned_none w W.heap.size t ty e i 1 ht hi v n xs hown, by simpa using hown, hb⟩
  · obtain ⟨v', w', hr, hown', hgrow, -⟩ := run_append_own (P := P) w W.heap.size t ty e i z 1 bytes ht hi hz hsize hby hzs (by omega) v n xs hown ad m c news (by omega) h3 h2 h63 hbytes hb.size
    exact ⟨v', w', hr, hown', hb.grown hgrow hb.size (fun k e => (hown.lt k e).1)⟩
theorem run_append_src {P : Program} {w W : World} {B : Nat} (hB : B = W.heap.size) (hb : Below B W w) (t ty e : TypeId) (i : TypeInfo) (z : Value) (bytes : Nat) (ht : P.underlying t = some (.slice e)) (hi : P.info? e = some i) (hz : i.zero = some z)
    (hsize : i.size = 1) (hby : i.bytes = bytes) (hzs : z.cells.size = 1) (v : Value) (n : Nat) (xs : List Value) (hown : w.ownsRow B e 1 v n xs)
    (x : Value) (m : Nat) (news : List Value) (hsrc : pSrcIs W x m news) (h63 : n + m ≤ maxLen) (hbytes : (n + m) * bytes ≤ 140737488355328) :
    ∃ v' w', (Builtin.append_ #[t, t] ty #[v, x]).run P w = .ok v' w' ∧ w'.ownsRow B e 1 v' (n + m) (xs ++ news) ∧ Below B W w' := by
  subst hB
  exact pRun_append_now rfl hb t ty e i z bytes ht hi hz hsize hby hzs v n xs hown x m news (hsrc.below hb) h63 hbytes
theorem wp_append_src {P : Program} {w : World} {o : Oper} {a : Act} {K : Act → World → Prop} {Q : Exit → Act → World → Prop} (s x : Operand) (t : TypeId)
    (ho : o.op = .call { callee := .builtin .append, args := #[s, x], argTypes := #[t, t] }) (W : World) (B : Nat) (hB : B = W.heap.size) (hb : Below B W w)
    (e : TypeId) (i : TypeInfo) (z : Value) (bytes : Nat) (ht : P.underlying t = some (.slice e)) (hi : P.info? e = some i) (hz : i.zero = some z)
    (hsize : i.size = 1) (hby : i.bytes = bytes) (hzs : z.cells.size = 1) (v : Value) (n : Nat) (xs : List Value) (hs : a.eval s = v) (hown : w.ownsRow B e 1 v n xs)
    (u : Value) (m : Nat) (news : List Value) (hx : a.eval x = u) (hsrc : pSrcIs W u m news) (h63 : n + m ≤ maxLen) (hbytes : (n + m) * bytes ≤ 140737488355328)
    (h : ∀ v' w', w'.ownsRow B e 1 v' (n + m) (xs ++ news) → Below B W w' → K (a.put o.dst v') w') : o.wp P a w K Q := by
  obtain ⟨v', w', hr, h2, h3⟩ := run_append_src (P := P) hB hb t o.type e i z bytes ht hi hz hsize hby hzs v n xs hown u m news hsrc h63 hbytes
  unfold Oper.wp execOp
  simp only [ho, resolve, invoke, builtin, Sem.run_bind, Sem.run_pure, Result.andThen_ok, List.map_toArray, List.map_cons, List.map_nil, hs, hx, hr]
  exact h v' w' h2 h3
theorem step_append_src {P : Program} {w : World} {ops : Array Oper} {o : Oper} {a : Act} {K : Act → World → Prop} {Q : Exit → Act → World → Prop} {E : Prop} (hgd : o.guard = none) (s x : Operand) (t : TypeId)
    (ho : o.op = .call { callee := .builtin .append, args := #[s, x], argTypes := #[t, t] }) (W : World) (B : Nat) (hB : B = W.heap.size) (hb : Below B W w)
    (e : TypeId) (i : TypeInfo) (z : Value) (bytes : Nat) (ht : P.underlying t = some (.slice e)) (hi : P.info? e = some i) (hz : i.zero = some z)
    (hsize : i.size = 1) (hby : i.bytes = bytes) (hzs : z.cells.size = 1) (v : Value) (n : Nat) (xs : List Value) (hs : a.eval s = v) (hown : w.ownsRow B e 1 v n xs)
    (u : Value) (m : Nat) (news : List Value) (hx : a.eval x = u) (hsrc : pSrcIs W u m news) (h63 : n + m ≤ maxLen) (hbytes : (n + m) * bytes ≤ 140737488355328)
    (h : ∀ v' w', w'.ownsRow B e 1 v' (n + m) (xs ++ news) → Below B W w' → K (a.put o.dst v') w') :
    if Region.wanted o (yielded ops a.tmps) = true then Oper.wp P o a w K Q else E := by
  have hw : Region.wanted o (yielded ops a.tmps) = true := by simp [Region.wanted, hgd]
  rw [if_pos hw]
  exact wp_append_src s x t ho W B hB hb e i z bytes ht hi hz hsize hby hzs v n xs hs hown u m news hx hsrc h63 hbytes h
theorem app_get {b a : List (List Int)} {nu nv : List Value} (hl : nu.length = b.length) (hu : ∀ j, j < b.length → ∃ x c, nu[j]? = some (.slice x (nthd b j).length c)) (hv : ∀ j, j < a.length → ∃ x c, nv[j]? = some (.slice x (nthd a j).length c)) :
    ∀ k, k < b.length + a.length → ∃ x c, (nu ++ nv)[k]? = some (.slice x (nthd (b ++ a) k).length c) := by
  intro k hk
  by_cases h : k < b.length
  · obtain ⟨x, c, e⟩ := hu k h
    refine ⟨x, c, ?_⟩
    rw [List.getElem?_append_left (by omega), e]
    unfold nthd; rw [List.getD_eq_getElem?_getD, List.getD_eq_getElem?_getD, List.getElem?_append_left h]
  · obtain ⟨x, c, e⟩ := hv (k - b.length) (by omega)
    refine ⟨x, c, ?_⟩
    rw [List.getElem?_append_right (by omega), hl, e]
    unfold nthd; rw [List.getD_eq_getElem?_getD, List.getD_eq_getElem?_getD, List.getElem?_append_right (by omega)]
theorem all_nthd {ds : List (List Int)} {i : Int} (h : ∀ k, k < ds.length → ((nthd ds k).length : Int) = i) : ∀ d ∈ ds, (d.length : Int) = i := by
  intro d hd
  obtain ⟨k, hk, rfl⟩ := List.mem_iff_getElem.1 hd
  have := h k hk
  unfold nthd at this
  rwa [List.getD_eq_getElem?_getD, List.getElem?_eq_getElem hk] at this
theorem nthd_mem {ds : List (List Int)} {k : Nat} (h : k < ds.length) : nthd ds k ∈ ds := by
  unfold nthd; rw [List.getD_eq_getElem?_getD, List.getElem?_eq_getElem h]; exact List.getElem_mem h
/-- A step has as many digests as there are children beside, each of the tree's inner length. -/
def StepFits (inner : Int) (ch af : Nat → Int) (ss : List StepV) (j : Nat) : Prop := ((nths ss j).1.length : Int) = ch j ∧ ((nths ss j).2.length : Int) = af j ∧ ∀ d ∈ (nths ss j).1 ++ (nths ss j).2, (d.length : Int) = inner
def FitsP (inner : Int) (m : Nat) (ch af : Nat → Int) (ss : List StepV) : Prop := ss.length = m ∧ ∀ j, j < m → StepFits inner ch af ss j
/-- A stage's cells. -/
def StageAt (w : World) (g : Nat) (R A F T ch : Nat → Int) (la ro : Nat → Bool) (j : Nat) : Prop :=
  w.cell? ⟨g, j * 7, none⟩ = some (.int .i64 (R j)) ∧ w.cell? ⟨g, j * 7 + 1, none⟩ = some (.int .u64 (A j)) ∧ w.cell? ⟨g, j * 7 + 2, none⟩ = some (.int .u64 (F j)) ∧ w.cell? ⟨g, j * 7 + 3, none⟩ = some (.int .u64 (T j)) ∧
    w.cell? ⟨g, j * 7 + 4, none⟩ = some (.bool (la j)) ∧ w.cell? ⟨g, j * 7 + 5, none⟩ = some (.bool (ro j)) ∧ w.cell? ⟨g, j * 7 + 6, none⟩ = some (.int .u64 (ch j))
theorem StageAt.below {w w' : World} {g : Nat} {R A F T ch : Nat → Int} {la ro : Nat → Bool} {j : Nat} (h : StageAt w g R A F T ch la ro j) (hg : g < w.heap.size) (hb : Below w.heap.size w w') : StageAt w' g R A F T ch la ro j := by
  obtain ⟨h0, h1, h2, h3, h4, h5, h6⟩ := h
  exact ⟨(hb.cell (p := ⟨g, _, none⟩) hg).trans h0, (hb.cell (p := ⟨g, _, none⟩) hg).trans h1, (hb.cell (p := ⟨g, _, none⟩) hg).trans h2, (hb.cell (p := ⟨g, _, none⟩) hg).trans h3, (hb.cell (p := ⟨g, _, none⟩) hg).trans h4, (hb.cell (p := ⟨g, _, none⟩) hg).trans h5, (hb.cell (p := ⟨g, _, none⟩) hg).trans h6⟩
/-- A function's boxes of a tree and a path, and all that was there. -/
def Boxes (w : World) (ti : Int) (u : Value) (wr : World) : Prop := Below w.heap.size w wr ∧ w.heap.size + 2 ≤ wr.heap.size ∧ wr.cell? ⟨w.heap.size, 5, none⟩ = some (.int .i64 ti) ∧ wr.cell? ⟨w.heap.size + 1, 2, none⟩ = some u
theorem Boxes.below {w wr w' : World} {ti : Int} {u : Value} (h : Boxes w ti u wr) (hb : Below wr.heap.size wr w') : Boxes w ti u w' := by
  obtain ⟨h1, h2, h3, h4⟩ := h
  have := hb.size
  exact ⟨h1.trans (hb.mono (by omega)), by omega, (hb.cell (p := ⟨w.heap.size, 5, none⟩) (by show w.heap.size < wr.heap.size; omega)).trans h3, (hb.cell (p := ⟨w.heap.size + 1, 2, none⟩) (by show w.heap.size + 1 < wr.heap.size; omega)).trans h4⟩
theorem boxes_start (w : World) {cs1 cs2 : Array Value} {T1 T2 : TypeId} {ti : Int} {u : Value} (h1 : cs1[5]? = some (.int .i64 ti)) (h2 : cs2[2]? = some u) : Boxes w ti u ((w.alloc (.cells cs1 T1)).alloc (.cells cs2 T2)) := by
  refine ⟨((Below.refl _ _).alloc (Nat.le_refl _) _).alloc (by simp) _, by simp, ?_, ?_⟩
  · rw [cell_of_heap ((Below.heap_alloc (w.alloc (.cells cs1 T1)) _ w.heap.size (by simp)).trans (World.alloc_heap_new w _)) 5]; exact h1
  · have e : (w.alloc (.cells cs1 T1)).heap.size = w.heap.size + 1 := by simp
    rw [← e, cell_of_heap (World.alloc_heap_new (w.alloc (.cells cs1 T1)) _) 2]; exact h2
theorem pInfo_bytes : (Try.prog.info? 24).map (fun i => (i.zero, i.size, i.bytes)) = some (some (.slice none 0 0), 1, 24) := by kernel_rfl
theorem letter_world {P : Program} {c : Code} {Q : Exit → Act → World → Prop} {a : Act} {w : World} (h : ∀ W, W = w → Code.wp P c Q a W) : Code.wp P c Q a w := h w rfl
theorem fits_len (t : TreeV) (total leaf : Nat) (u : Value) (ss : List StepV) (w : World) (hs : StepsAt w u ss) (ho : StepsOk 1048576 ss) (m : Nat) (lv : Option Addr) (cap : Nat) (hm : m ≤ 255) (hne : ss.length ≠ m) :
    Calls Try.prog 18 #[t.val, .agg #[.int .u64 total, .int .u64 leaf, u], .slice lv m cap] w fun e w' => e = .returned (.bool false) ∧ Below w.heap.size w w' := by
  obtain ⟨a, c, U, V, rfl, -, -⟩ := hs
  have hl := ho.1
  have q1 : ((ss.length : Int) == (m : Int)) = false := by rw [beq_eq_false_iff_ne]; omega
  have q2 : (ss.length == m) = false := by rw [beq_eq_false_iff_ne]; omega
  have q3 : ((ss.length : Int) != (m : Int)) = true := by rw [bne_iff_ne]; omega
  have q4 : (ss.length != m) = true := by rw [bne_iff_ne]; omega
  unfold TreeV.val
  go_enter Try.func18, Try.ntmps18
  go_wp2
  go_ret
  exact ⟨rfl, ((Below.refl _ _).alloc (Nat.le_refl _) _).alloc (by simp) _⟩
theorem fits_same (t : TreeV) (total leaf : Nat) (u : Value) (ss : List StepV) (w : World) (hs : StepsAt w u ss) (ho : StepsOk 1048576 ss) (g cap : Nat) (hg : g < w.heap.size) (hm : ss.length ≤ 255) (hm0 : 1 ≤ ss.length)
    (R A F T ch af : Nat → Int) (la ro : Nat → Bool) (HC : Hid (∀ j, j < ss.length → StageAt w g R A F T ch la ro j))
    (HF : Hid (∀ j, j < ss.length → 0 ≤ F j ∧ F j ≤ T j ∧ T j ≤ 18446744073709551615 ∧ 0 ≤ ch j ∧ 0 ≤ af j ∧ af j = T j - F j - ch j - 1)) :
    Calls Try.prog 18 #[t.val, .agg #[.int .u64 total, .int .u64 leaf, u], .slice (some ⟨g, 0, none⟩) ss.length cap] w fun e w' => ∃ b : Bool, e = .returned (.bool b) ∧ (b = true ↔ ∀ j, j < ss.length → StepFits t.i ch af ss j) ∧ Below w.heap.size w w' := by
  obtain ⟨i0, hi, hz0, hz1, hz2⟩ := info_parts pInfo_bytes
  obtain ⟨a, c, U, V, rfl, -, h⟩ := hs
  obtain ⟨b, off, rfl, hbw, h'⟩ := h.resolve_left (fun e => by rw [e] at hm0; simp at hm0)
  have HU := hid h'
  clear h h'
  have HO := hid ho.2
  unfold TreeV.val
  go_enter Try.func18, Try.ntmps18
  go_wp2_with fail
  go_loopw [21] (fun i wr => ∃ j : Nat, i = .int .i64 j ∧ j ≤ ss.length ∧ Boxes w t.i (.slice (some ⟨b, off, none⟩) ss.length c) wr ∧ Hid (∀ j', j' < j → StepFits t.i ch af ss j')) (fun i _ => ss.length - (intOf i).toNat)
  case atStart => exact ⟨0, rfl, by omega, boxes_start w rfl rfl, hid (fun j' h => absurd h (Nat.not_lt_zero _))⟩
  case round =>
    obtain ⟨j, rfl, hj, hx, HS⟩ := hrel
    obtain ⟨hB, hsr, ht5, hp2⟩ := id hx
    have hgr : g < wr.heap.size := by omega
    have hbr : b < wr.heap.size := by omega
    have hwr : w.heap.size < wr.heap.size := by omega
    have hwr1 : w.heap.size + 1 < wr.heap.size := by omega
    by_cases hlt : j < ss.length
    · obtain ⟨c0, c1, c2, c3, c4, c5, c6⟩ := (HC.out j hlt).below hg hB
      obtain ⟨cu, cv, ru, rv⟩ := HU.out j hlt
      have hmem : nths ss j ∈ ss := by unfold nths; rw [List.getD_eq_getElem?_getD, List.getElem?_eq_getElem hlt]; exact List.getElem_mem hlt
      obtain ⟨⟨lu, -⟩, lv, -⟩ := HO.out _ hmem
      obtain ⟨f1, f2, f3, f4, f5, f6⟩ := HF.out j hlt
      obtain ⟨nu, su, gu⟩ := ru.src
      obtain ⟨nv, sv, gv⟩ := rv.src
      have cu' : wr.cell? ⟨b, off + j * 2, none⟩ = some (U j) := (hB.cell (p := ⟨b, _, none⟩) hbw).trans cu
      have cv' : wr.cell? ⟨b, off + j * 2 + 1, none⟩ = some (V j) := (hB.cell (p := ⟨b, _, none⟩) hbw).trans cv
      have HSU := hid (su.below hB)
      have HSV := hid (sv.below hB)
      have HGA := hid (app_get su.1 gu gv)
      obtain ⟨au, ku, VU, eu, -, -⟩ := ru
      obtain ⟨av, kv, VV, ev, -, -⟩ := rv
      rw [eu] at cu' HSU
      rw [ev] at cv' HSV
      clear su sv gu gv cu cv eu ev
      generalize hlu : (nths ss j).1.length = nb at *
      generalize hlv : (nths ss j).2.length = na at *
      by_cases h1 : (nb : Int) = ch j
      · by_cases h2 : (na : Int) = af j
        · have q1 : ((nb : Int) != ch j) = false := by rw [bne_eq_false_iff_eq]; exact h1
          have q2 : ((na : Int) != T j - F j - ch j - 1) = false := by rw [bne_eq_false_iff_eq]; omega
          have H1 := hid h1
          have H2 := hid h2
          clear h1 h2
          go_wp2_with fail
          refine letter_world ?_
          intro W hW
          have hWs : W.heap.size = wr.heap.size + 2 := by rw [hW]; simp
          have hWB : Below wr.heap.size wr W := by rw [hW]; exact ((Below.refl _ _).alloc (Nat.le_refl _) _).alloc (by simp) _
          have cU : W.cell? ⟨wr.heap.size + 1, 0, none⟩ = some (.slice au nb ku) := by
            rw [hW, show wr.heap.size + 1 = (wr.alloc (Obj.cells #[.int .i64 (R j), .int .u64 (A j), .int .u64 (F j), .int .u64 (T j), .bool (la j), .bool (ro j), .int .u64 (ch j)] 46)).heap.size by simp]
            exact cell_of_heap (World.alloc_heap_new _ _) 0
          have cV : W.cell? ⟨wr.heap.size + 1, 1, none⟩ = some (.slice av na kv) := by
            rw [hW, show wr.heap.size + 1 = (wr.alloc (Obj.cells #[.int .i64 (R j), .int .u64 (A j), .int .u64 (F j), .int .u64 (T j), .bool (la j), .bool (ro j), .int .u64 (ch j)] 46)).heap.size by simp]
            exact cell_of_heap (World.alloc_heap_new _ _) 1
          have kW : wr.heap.size + 1 < W.heap.size := by omega
          have HSU' := HSU.out.below hWB
          have HSV' := HSV.out.below hWB
          clear hW
          go_region_held3 (fun w' => w'.cell? ⟨wr.heap.size + 1, 0, none⟩ = some (.slice au nb ku) ∧ w'.cell? ⟨wr.heap.size + 1, 1, none⟩ = some (.slice av na kv))
            (first | go_keep | exact ⟨(hbB.cell (p := ⟨wr.heap.size + 1, 0, none⟩) kW).trans cU, (hbB.cell (p := ⟨wr.heap.size + 1, 1, none⟩) kW).trans cV⟩ | exact ⟨(hbA.cell (p := ⟨wr.heap.size + 1, 0, none⟩) kW).trans cU, (hbA.cell (p := ⟨wr.heap.size + 1, 1, none⟩) kW).trans cV⟩)
            (first
              | (refine step_append_src (by rfl) _ _ _ (by rfl) W W.heap.size rfl (by first | exact Below.refl _ _ | exact (Below.refl _ _).drew | exact (Below.refl _ _).drew.drew | exact (Below.refl _ _).drew.drew.drew) 24 i0 (.slice none 0 0) 24 Try.underlying47 hi hz0 hz1 hz2 rfl (.slice none 0 0) 0 [] (by rfl) (World.ownsRow_nil _ _ _ _) (.slice au nb ku) nb nu (by rfl) HSU' (by unfold maxLen; omega) (by omega) ?_; intro vA wA hownA hbA)
              | (refine step_append_src (by rfl) _ _ _ (by rfl) W W.heap.size rfl (by first | exact hbA | exact hbA.drew | exact hbA.drew.drew | exact hbA.drew.drew.drew) 24 i0 (.slice none 0 0) 24 Try.underlying47 hi hz0 hz1 hz2 rfl vA (0 + nb) ([] ++ nu) (by rfl) (by first | exact hownA | exact hownA.drew | exact hownA.drew.drew | exact hownA.drew.drew.drew) (.slice av na kv) na nv (by rfl) HSV' (by unfold maxLen; omega) (by omega) ?_; intro vB wB hownB hbB; obtain ⟨gB, kB, rfl⟩ := ownsRow_any hownB))
          have hownB' : wB.ownsRow W.heap.size 24 1 (.slice gB (nb + na) kB) (nb + na) (nu ++ nv) := by simpa using hownB
          have hWwB : Below wr.heap.size wr wB := hWB.trans (hbB.mono (by omega))
          have hxB := hx.below hWwB
          have htB := hxB.2.2.1
          clear hownB hownA hbA
          go_wp2_with fail
          go_loopw [64] (fun i wi => ∃ k : Nat, i = .int .i64 k ∧ wB = wi ∧ k ≤ nb + na ∧ Hid (∀ k', k' < k → ((nthd ((nths ss j).1 ++ (nths ss j).2) k').length : Int) = t.i)) (fun i _ => nb + na - (intOf i).toNat)
          case atStart => exact ⟨0, rfl, rfl, by omega, hid (fun k h => absurd h (Nat.not_lt_zero _))⟩
          case round =>
            obtain ⟨k, rfl, rfl, hk, HK⟩ := hrel
            by_cases hlk : k < nb + na
            · obtain ⟨g', c', e⟩ := ownsRow_form hownB' (by omega)
              simp only [Value.slice.injEq, true_and] at e
              obtain ⟨rfl, rfl⟩ := e
              obtain ⟨x, cx, ex⟩ := HGA.out k (by omega)
              have hcx := (hownB'.cellAt k (by omega)).trans ex
              by_cases h3 : ((nthd ((nths ss j).1 ++ (nths ss j).2) k).length : Int) = t.i
              · have q3 : (((nthd ((nths ss j).1 ++ (nths ss j).2) k).length : Int) != t.i) = false := by rw [bne_eq_false_iff_eq]; exact h3
                have H3 := hid h3
                clear h3
                generalize hln : (nthd ((nths ss j).1 ++ (nths ss j).2) k).length = ln at *
                go_wp2
                refine ⟨⟨k + 1, rfl, by trivial, by omega, hid fun k' hk' => ?_⟩, by simp [intOf]; omega⟩
                by_cases e : k' = k
                · rw [e, hln]; exact H3.out
                · exact HK.out k' (by omega)
              · have q3 : (((nthd ((nths ss j).1 ++ (nths ss j).2) k).length : Int) != t.i) = true := by rw [bne_iff_ne]; exact h3
                have H3 := hid h3
                clear h3
                generalize hln : (nthd ((nths ss j).1 ++ (nths ss j).2) k).length = ln at *
                go_wp2
                go_ret
                refine ⟨false, rfl, ⟨fun e => absurd e (by simp), fun h => ?_⟩, hxB.1⟩
                exact absurd ((h j hlt).2.2 _ (nthd_mem (k := k) (by rw [List.length_append, hlu, hlv]; exact hlk))) (by rw [hln]; exact H3.out)
            · obtain rfl : k = nb + na := by omega
              go_wp2
              refine ⟨⟨j + 1, rfl, by omega, hxB, hid fun j' hj' => ?_⟩, by simp [intOf]; omega⟩
              by_cases e : j' = j
              · rw [e]
                exact ⟨by rw [hlu]; exact H1.out, by rw [hlv]; exact H2.out, all_nthd (by rw [List.length_append, hlu, hlv]; exact HK.out)⟩
              · exact HS.out j' (by omega)
        · have q1 : ((nb : Int) != ch j) = false := by rw [bne_eq_false_iff_eq]; exact h1
          have q2 : ((na : Int) != T j - F j - ch j - 1) = true := by rw [bne_iff_ne]; omega
          have H2 := hid h2
          clear h1 h2
          go_wp2
          go_ret
          exact ⟨false, rfl, ⟨fun e => absurd e (by simp), fun h => absurd ((h j hlt).2.1) (by rw [hlv]; exact H2.out)⟩, (hB.alloc (by omega) _).alloc (by simp; omega) _⟩
      · have q1 : ((nb : Int) != ch j) = true := by rw [bne_iff_ne]; exact h1
        have H1 := hid h1
        clear h1
        go_wp2
        go_ret
        exact ⟨false, rfl, ⟨fun e => absurd e (by simp), fun h => absurd ((h j hlt).1) (by rw [hlu]; exact H1.out)⟩, (hB.alloc (by omega) _).alloc (by simp; omega) _⟩
    · obtain rfl : j = ss.length := by omega
      go_wp2
      go_ret
      exact ⟨true, rfl, ⟨fun _ => HS.out, fun _ => rfl⟩, hB⟩
/-- Every path, against the stages of a way. -/
theorem fits_any (t : TreeV) (total leaf : Nat) (u : Value) (ss : List StepV) (w : World) (hs : StepsAt w u ss) (ho : StepsOk 1048576 ss) (g cap m : Nat) (hg : g < w.heap.size) (hm : m ≤ 255) (hm0 : 1 ≤ m)
    (R A F T ch af : Nat → Int) (la ro : Nat → Bool) (HC : ∀ j, j < m → StageAt w g R A F T ch la ro j)
    (HF : ∀ j, j < m → 0 ≤ F j ∧ F j ≤ T j ∧ T j ≤ 18446744073709551615 ∧ 0 ≤ ch j ∧ 0 ≤ af j ∧ af j = T j - F j - ch j - 1) :
    Calls Try.prog 18 #[t.val, .agg #[.int .u64 total, .int .u64 leaf, u], .slice (some ⟨g, 0, none⟩) m cap] w fun e w' => ∃ b : Bool, e = .returned (.bool b) ∧ (b = true ↔ FitsP t.i m ch af ss) ∧ Below w.heap.size w w' := by
  by_cases h : ss.length = m
  · subst h
    refine (fits_same t total leaf u ss w hs ho g cap hg hm hm0 R A F T ch af la ro (hid HC) (hid HF)).mono ?_
    rintro e w' ⟨b, rfl, hb, hw⟩
    exact ⟨b, rfl, hb.trans ⟨fun h => ⟨rfl, h⟩, fun h => h.2⟩, hw⟩
  · refine (fits_len t total leaf u ss w hs ho m _ cap hm h).mono ?_
    rintro e w' ⟨rfl, hw⟩
    exact ⟨false, rfl, ⟨fun e => absurd e (by simp), fun h' => absurd h'.1 h⟩, hw⟩
/-- What one row's loop reads at its k-th digest. -/
theorem pRowsAt.elem {w : World} {a : Option Addr} {n cap : Nat} {ds : List (List Int)} (h : pRowsAt w (.slice a n cap) ds) {k : Nat} (hk : k < n) :
    n = ds.length ∧ ∃ b off x c, a = some ⟨b, off, none⟩ ∧ b < w.heap.size ∧ w.cell? ⟨b, off + k, none⟩ = some (.slice x (nthd ds k).length c) ∧ Holds8 w (.slice x (nthd ds k).length c) (nthd ds k) := by
  obtain ⟨a', c', V', e, -, h⟩ := h
  simp only [Value.slice.injEq] at e
  obtain ⟨rfl, rfl, rfl⟩ := e
  obtain ⟨b, off, rfl, hb, h⟩ := h.resolve_left (fun e => by rw [e] at hk; simp at hk)
  obtain ⟨h1, h2⟩ := h k hk
  obtain ⟨x, c, e, h3⟩ := id h2
  rw [e] at h1 h2
  exact ⟨rfl, b, off, x, c, rfl, hb, h1, h2⟩
theorem pOwn_ne {w : World} {B size n N : Nat} {e T : TypeId} {v : Value} {xs : List Value} {c : Array Value} {fr : Nat × Nat} (h : w.ownsRow B e size v n xs) (hN : w.heap[N]? = some (.cells c T fr)) (hT : T ≠ e) : some N ≠ v.ownBlock := by
  intro e'
  rcases h.2 with ⟨rfl, -⟩ | ⟨g, cap, cur, rfl, -, hg, -⟩
  · simp [Value.ownBlock] at e'
  · simp only [Value.ownBlock, Option.some.injEq] at e'
    subst e'
    rw [hg] at hN
    simp only [Option.some.injEq, Obj.cells.injEq] at hN
    exact hT hN.2.1.symm
theorem append_bytes {w : World} {ops : Array Oper} {rest : List Oper} {o : Oper} {a : Act} {Q : Exit → Act → World → Prop} (hgd : o.guard = none) (s x : Operand)
    (ho : o.op = .call { callee := .builtin .append, args := #[s, x], argTypes := #[24, 24] }) (B : Nat) (L : List Int) (v : Value) (hs : a.eval s = v) (hown : w.ownsRow B 5 1 v L.length (L.map encB))
    (u : Value) (zs : List Int) (hx : a.eval x = u) (hz : Holds8 w u zs) (hne : zs ≠ []) (hlen : L.length + zs.length ≤ 1099511627776) (hB : B ≤ w.heap.size)
    (h : ∀ v' w', w'.ownsRow B 5 1 v' (L ++ zs).length ((L ++ zs).map encB) → w.grownBy w' v.ownBlock → wpList Try.prog ops Q rest (a.put o.dst v') w') : wpList Try.prog ops Q (o :: rest) a w := by
  obtain ⟨i0, hi, hz0, hz1, hz2⟩ := info_parts info_u8
  obtain ⟨ad, cap, rfl, hz⟩ := hz
  obtain ⟨b, off, rfl, hb1, hb2⟩ := hz.resolve_left hne
  refine wpList_append_own w hgd s x _ ho B 5 i0 (.int .u8 0) 1 1 Try.underlying24 hi hz0 hz1 hz2 rfl (by decide) v L.length (L.map encB) hs hown ⟨b, off, none⟩ zs.length cap (zs.map encB) hx (by simp) (cells_of_map hb2) (by simp [encB, Value.oneCell']) (by unfold maxLen; omega) (by omega) hB ?_
  intro v' w' hown' hgrow _
  exact h v' w' (by rw [List.length_append, List.map_append]; exact hown') hgrow
/-- The first k digests, one behind the other. -/
def rowL (ds : List (List Int)) : Nat → List Int
  | 0 => []
  | k + 1 => rowL ds k ++ nthd ds k
theorem nths_mem {ss : List StepV} {k : Nat} (h : k < ss.length) : nths ss k ∈ ss := by
  unfold nths; rw [List.getD_eq_getElem?_getD, List.getElem?_eq_getElem h]; exact List.getElem_mem h
/-- What a way's answer is, for the stages that follow. -/
def StagesIs (w : World) (g m : Nat) (R A F T ch : Nat → Int) (la ro : Nat → Bool) : Prop := g < w.heap.size ∧ ∀ j, j < m → StageAt w g R A F T ch la ro j
theorem StagesIs.below {w w' : World} {g m : Nat} {R A F T ch : Nat → Int} {la ro : Nat → Bool} (h : StagesIs w g m R A F T ch la ro) (hb : Below w.heap.size w w') : StagesIs w' g m R A F T ch la ro :=
  ⟨Nat.lt_of_lt_of_le h.1 hb.size, fun j hj => (h.2 j hj).below h.1 hb⟩
end Go.Proofs.Ytahenngmaoellaa
namespace Go.Proofs.Ytahenngmaoellaa
open Go.ChangeShapes Go.WideShapes Go.ChangeAt Go.RowKit Go.Joins Go.Shelf Go.Maps
open Go.Lib (hid)
/-- A node has at most one child more than there are nodes fewer in its row. -/
theorem kids_le {f p total l : Nat} {L : List Nat} (h : RowsIs f p (lvs total l) L) {k A : Nat} (hk : k + 1 < L.length) (ha : A < nth L (k + 1)) :
    (spotIn f l total L (k + 1) A).to_ + nth L (k + 1) ≤ nth L k + (spotIn f l total L (k + 1) A).frm + 1 := by
  by_cases h1 : nth L (k + 1) = 1
  · rw [spotIn_root' ⟨by omega, h1⟩]
    show nth L (k + 1 - 1) + nth L (k + 1) ≤ nth L k + 0 + 1
    rw [Nat.add_sub_cancel, h1]; omega
  · have hn : ¬ (1 ≤ k + 1 ∧ nth L (k + 1) = 1) := fun h => h1 h.2
    obtain ⟨e, hf⟩ := h.next_or hk h1
    have hf1 : 1 ≤ f := by omega
    by_cases h2 : A = nth L (k + 1) - 1
    · rw [spotIn_last' hn h2]
      simp only [Nat.succ_ne_zero, if_false, Nat.add_sub_cancel]
      have : A ≤ A * f := Nat.le_mul_of_pos_right A hf1
      omega
    · rw [spotIn_mid' hn h2]
      simp only [Nat.succ_ne_zero, if_false]
      have hlt := cdiv_lt' (m := nth L k) (d := f) (k := nth L (k + 1) - 1) hf1 (by rw [← e]; omega)
      obtain ⟨c, hc⟩ : ∃ c, nth L (k + 1) = c + 2 := ⟨nth L (k + 1) - 2, by omega⟩
      rw [hc] at hlt ⊢
      have e3 : (c + 2 - 1) * f = c * f + f := by rw [show c + 2 - 1 = c + 1 by omega, Nat.add_mul, Nat.one_mul]
      rw [e3] at hlt
      have : c ≤ c * f := Nat.le_mul_of_pos_right c hf1
      rw [Nat.add_mul, Nat.one_mul]
      omega
structure KidFacts (t : TreeV) (total leaf k : Nat) : Prop where
  le : (wayS t total leaf (k + 1)).frm ≤ wayA t.fn (t.rowsOf total) leaf k
  lt : wayA t.fn (t.rowsOf total) leaf k < (wayS t total leaf (k + 1)).to_
  to : ((wayS t total leaf (k + 1)).to_ : Int) ≤ 18446744073709551615
  few : (wayS t total leaf (k + 1)).to_ + nth (t.rowsOf total) (k + 1) ≤ nth (t.rowsOf total) k + (wayS t total leaf (k + 1)).frm + 1
theorem way_kids {t : TreeV} (hl : 0 ≤ t.l ∧ t.l ≤ 4294967295) {total : Nat} (ht : (total : Int) ≤ 18446744073709551615) {leaf : Nat} (h : t.spotE total 0 leaf = 0) :
    (∀ k, k + 1 < (t.rowsOf total).length → KidFacts t total leaf k) ∧ (nth (t.rowsOf total) 0 : Int) ≤ 18446744073709551615 ∧ 1 ≤ t.i ∧ t.i ≤ 64 ∧ t.validE = 0 := by
  have her : t.err total = 0 := by
    by_cases h' : t.err total = 0
    · exact h'
    · unfold TreeV.spotE at h; rw [if_pos h'] at h; exact absurd h h'
  have hleaf : leaf < nth (t.rowsOf total) 0 := by
    unfold TreeV.spotE at h
    rw [if_neg (by simp [her])] at h
    by_cases hth : t.there total 0 leaf
    · exact hth.2.2
    · rw [if_neg hth] at h; omega
  obtain ⟨hl1, hl2, hln, h0⟩ := TreeV.ok_facts hl her
  have hvf := TreeV.valid_facts h0
  have hR := TreeV.rows_is her
  refine ⟨fun k hk => ?_, rows_le hl1 ht hR 0 (by have := hR.len; omega), by omega, ?_, h0⟩
  · have hch := (child_of' (l := t.ln) hR hk (wayA_lt hR hleaf k (by omega))).2
    have h2 : (wayS t total leaf (k + 1)).to_ ≤ nth (t.rowsOf total) k := spotIn_to_le hl1 hR hk (by omega) (wayA_lt hR hleaf _ hk)
    have h3 := rows_le hl1 ht hR k (by omega)
    exact ⟨hch.1, hch.2, by omega, kids_le hR hk (wayA_lt hR hleaf _ hk)⟩
  · rcases hvf.1 with e | e <;> rw [e] at hvf <;> simp [sizeK] at hvf <;> omega
/-- How many digests lie before, behind the one on the way, at the k-th step. -/
def chN (t : TreeV) (total leaf k : Nat) : Nat := wayA t.fn (t.rowsOf total) leaf k - (wayS t total leaf (k + 1)).frm
def afN (t : TreeV) (total leaf k : Nat) : Nat := (wayS t total leaf (k + 1)).to_ - wayA t.fn (t.rowsOf total) leaf k - 1
def chI (t : TreeV) (total leaf k : Nat) : Int := (wayA t.fn (t.rowsOf total) leaf k : Int) - ((wayS t total leaf (k + 1)).frm : Int)
def afI (t : TreeV) (total leaf k : Nat) : Int := (afN t total leaf k : Int)
theorem chI_eq {t : TreeV} {total leaf k : Nat} (h : KidFacts t total leaf k) : chI t total leaf k = (chN t total leaf k : Int) := by
  unfold chI chN
  have := h.le
  omega
theorem stage_of {t : TreeV} {total leaf : Nat} {w : World} {b g m cap : Nat} (h : w.ownsRow b 46 7 (.slice (some ⟨g, 0, none⟩) m cap) m (stagesL t total leaf m)) :
    StagesIs w g m (fun j => ((wayS t total leaf (j + 1)).row : Int)) (fun j => ((wayS t total leaf (j + 1)).at_ : Int)) (fun j => ((wayS t total leaf (j + 1)).frm : Int)) (fun j => ((wayS t total leaf (j + 1)).to_ : Int)) (chI t total leaf) (fun j => (wayS t total leaf (j + 1)).last) (fun j => (wayS t total leaf (j + 1)).root) := by
  refine ⟨(h.lt g (by simp [Value.ownBlock])).2, fun j hj => ?_⟩
  refine ⟨?_, ?_, ?_, ?_, ?_, ?_, ?_⟩
  · rw [show j * 7 = 7 * j + 0 by omega]; exact (h.cellAt (7 * j + 0) (by omega)).trans (stagesL_get t total leaf m j 0 hj (by omega))
  · rw [show j * 7 + 1 = 7 * j + 1 by omega]; exact (h.cellAt (7 * j + 1) (by omega)).trans (stagesL_get t total leaf m j 1 hj (by omega))
  · rw [show j * 7 + 2 = 7 * j + 2 by omega]; exact (h.cellAt (7 * j + 2) (by omega)).trans (stagesL_get t total leaf m j 2 hj (by omega))
  · rw [show j * 7 + 3 = 7 * j + 3 by omega]; exact (h.cellAt (7 * j + 3) (by omega)).trans (stagesL_get t total leaf m j 3 hj (by omega))
  · rw [show j * 7 + 4 = 7 * j + 4 by omega]; exact (h.cellAt (7 * j + 4) (by omega)).trans (stagesL_get t total leaf m j 4 hj (by omega))
  · rw [show j * 7 + 5 = 7 * j + 5 by omega]; exact (h.cellAt (7 * j + 5) (by omega)).trans (stagesL_get t total leaf m j 5 hj (by omega))
  · rw [show j * 7 + 6 = 7 * j + 6 by omega]; exact (h.cellAt (7 * j + 6) (by omega)).trans (stagesL_get6 t total leaf m j hj)
/-- A way's stages, by the program. -/
theorem way_stages (t : TreeV) (hl : 0 ≤ t.l ∧ t.l ≤ 4294967295) (total : Nat) (ht : (total : Int) ≤ 18446744073709551615) (leaf : Nat) (he : t.spotE total 0 leaf = 0) (w : World) :
    Calls Try.prog 7 #[t.val, .int .u64 total, .int .u64 leaf] w fun e w' => ∃ g cap, e = .returned (.tuple #[.slice (some ⟨g, 0, none⟩) ((t.rowsOf total).length - 1) cap, .int .i64 0]) ∧
      StagesIs w' g ((t.rowsOf total).length - 1) (fun j => ((wayS t total leaf (j + 1)).row : Int)) (fun j => ((wayS t total leaf (j + 1)).at_ : Int)) (fun j => ((wayS t total leaf (j + 1)).frm : Int)) (fun j => ((wayS t total leaf (j + 1)).to_ : Int)) (chI t total leaf) (fun j => (wayS t total leaf (j + 1)).last) (fun j => (wayS t total leaf (j + 1)).root) ∧ Below w.heap.size w w' := by
  have F := way_facts hl ht he
  refine (way_ok t total leaf F.two F.most (hid fun k hk w => ?_) (hid fun k hk w => ?_) (hid F.cells) (hid F.child) w).mono ?_
  · have := spot_any t hl total ht (k : Nat) (wayA t.fn (t.rowsOf total) leaf k) w
    rw [(F.spot k hk).1, (F.spot k hk).2] at this
    exact this
  · have := parent_any t hl total ht (k : Nat) (wayA t.fn (t.rowsOf total) leaf k) (F.at_ k (by omega)) w
    rw [(F.par k hk).1, (F.par k hk).2] at this
    exact this
  · rintro e w' ⟨v, rfl, hown, hb⟩
    obtain ⟨g, cap, rfl⟩ := ownsRow_form hown (by have := F.two; omega)
    exact ⟨g, cap, rfl, stage_of hown, hb⟩
/-- A way's error, on both sides. -/
theorem way_errs (t : TreeV) (hl : 0 ≤ t.l ∧ t.l ≤ 4294967295) (total : Nat) (ht : (total : Int) ≤ 18446744073709551615) (leaf : Nat) (he : t.spotE total 0 leaf ≠ 0) (w : World) :
    Calls Try.prog 7 #[t.val, .int .u64 total, .int .u64 leaf] w fun e w' => e = .returned (.tuple #[.slice none 0 0, .int .i64 (t.spotE total 0 leaf)]) ∧ Below w.heap.size w w' := by
  have A1 := spot_any t hl total ht 0 leaf
  simp only [SpotV.val_is] at A1
  exact way_err t total leaf (hid A1) (by rw [bne_iff_ne]; exact he) w
theorem kid_ints {t : TreeV} {total leaf : Nat} {n : Nat} (hk : ∀ k, k + 1 < n → KidFacts t total leaf k) : ∀ j, j < n - 1 → 0 ≤ ((wayS t total leaf (j + 1)).frm : Int) ∧ ((wayS t total leaf (j + 1)).frm : Int) ≤ ((wayS t total leaf (j + 1)).to_ : Int) ∧ ((wayS t total leaf (j + 1)).to_ : Int) ≤ 18446744073709551615 ∧ 0 ≤ chI t total leaf j ∧ 0 ≤ afI t total leaf j ∧
    afI t total leaf j = ((wayS t total leaf (j + 1)).to_ : Int) - ((wayS t total leaf (j + 1)).frm : Int) - chI t total leaf j - 1 := by
  intro j hj
  obtain ⟨h1, h2, h3, h4⟩ := hk j (by omega)
  unfold chI afI afN
  omega
end Go.Proofs.Ytahenngmaoellaa
