/- The path of packed bytes, by the program. No condition. -/
import Derived.Test.YtkmgkeodmkfnpaaPackH
import Derived.Laws.CopyOwn
namespace Go.Proofs.Ytkmgkeodmkfnpaa
open Go.ChangeShapes Go.WideShapes Go.ChangeAt Go.RowKit Go.Joins Go.Shelf Go.Maps
attribute [local go_sem] Oper.semAt_some

theorem block_set3 {W : World} {b : Nat} {a0 a1 a2 : Value} {T : TypeId} {fr : Nat × Nat} (h : W.heap[b]? = some (Obj.cells #[a0, a1, a2] T fr)) (v0 v1 v2 : Value) :
    (((W.setCell ⟨b, 0, none⟩ v0).setCell ⟨b, 1, none⟩ v1).setCell ⟨b, 2, none⟩ v2).heap[b]? = some (Obj.cells #[v0, v1, v2] T fr) :=
  block_setCell (block_setCell (block_setCell h v0) v1) v2
theorem below_set3 {B : Nat} {a W : World} (h : Below B a W) {b : Nat} (hb : B ≤ b) (v0 v1 v2 : Value) :
    Below B a (((W.setCell ⟨b, 0, none⟩ v0).setCell ⟨b, 1, none⟩ v1).setCell ⟨b, 2, none⟩ v2) :=
  ((h.setCell (p := ⟨b, 0, none⟩) hb v0).setCell (p := ⟨b, 1, none⟩) hb v1).setCell (p := ⟨b, 2, none⟩) hb v2
theorem other_set3 {W : World} {b c : Nat} (h : c ≠ b) (v0 v1 v2 : Value) : (((W.setCell ⟨b, 0, none⟩ v0).setCell ⟨b, 1, none⟩ v1).setCell ⟨b, 2, none⟩ v2).heap[c]? = W.heap[c]? :=
  (Below.heap_setCell _ _ _ _ h).trans ((Below.heap_setCell _ _ _ _ h).trans (Below.heap_setCell _ _ _ _ h))
theorem keeps_set3 {Ts : List TypeId} {W : World} {b : Nat} {c : Array Value} {T : TypeId} {fr : Nat × Nat} (hb : W.heap[b]? = some (Obj.cells c T fr)) (hT : T ∉ Ts) (v0 v1 v2 : Value) :
    Keeps Ts W (((W.setCell ⟨b, 0, none⟩ v0).setCell ⟨b, 1, none⟩ v1).setCell ⟨b, 2, none⟩ v2) :=
  ((keeps_set hb hT v0).trans (keeps_set (block_setCell hb v0) hT v1)).trans (keeps_set (block_setCell (block_setCell hb v0) v1) hT v2)
theorem blockC {W : World} {b : Nat} {cs : Array Value} {T : TypeId} (h : W.heap[b]? = some (Obj.cells cs T (0, 0))) : (∀ o, W.cell? ⟨b, o, none⟩ = cs[o]?) ∧ (∀ o, W.frozen? ⟨b, o, none⟩ = false) :=
  ⟨fun o => cell_of_heap h o, fun o => by simp [World.frozen?, h]⟩
/-- What a function with a path and an error as its results hands back. -/
theorem path_results {P : Program} {fn : Func} {tmps : Array Value} {W : World} {b : Nat} {v0 v1 v2 e : Value} {T : TypeId} {fr : Nat × Nat}
    (hr : fn.results = #[.cell 4 58, .tmp 5]) (h4 : tmps[4]?.getD undef = .pointer (some ⟨b, 0, none⟩)) (h5 : tmps[5]?.getD undef = e)
    (hb : W.heap[b]? = some (Obj.cells #[v0, v1, v2] T fr)) (hP : P = Try.prog) :
    (results fn tmps).run P W = .ok (.tuple #[.agg #[v0, v1, v2], e]) W := by
  subst hP
  have c0 := cell_of_heap hb 0
  have c1 := cell_of_heap hb 1
  have c2 := cell_of_heap hb 2
  simp only [List.getElem?_toArray, List.getElem?_cons_zero, List.getElem?_cons_succ] at c0 c1 c2
  simp [results, hr, h4, h5, go_sem, c0, c1, c2]
def pathVal (total leaf : Int) (v : Value) : Value := .agg #[.int .u64 total, .int .u64 leaf, v]
set_option maxRecDepth 100000 in
theorem load64w_ok (zs : List Int) (v : Value) (at_ : Nat) (x : Nat) (hx : valZ zs at_ 8 = (x : Int)) (w : World) (h : Holds8 w v zs) (hz : ∀ z ∈ zs, 0 ≤ z ∧ z ≤ 255) (hl : at_ + 8 ≤ zs.length) (hm : zs.length ≤ 4294967296) :
    Calls Try.prog 53 #[v, .int .i64 (at_ : Nat)] w fun e w' => e = .returned (.tuple #[.int .u64 x, .int .i64 0]) ∧ w' = w := by
  have H := Lib.hid (load64_ok zs v at_ w h hz hl hm)
  rw [hx] at H
  clear h
  go_enter Try.func53, Try.ntmps53
  go_wp2_with fail
  refine H.out.mono ?_; rintro e w1 ⟨rfl, rfl⟩
  go_wp2
  exact bodyPost_ret (results_tmp2 (fn := Try.f53) (t := 4) (u := 5) rfl _ _ _) rfl ⟨rfl, rfl⟩
/-- The boxes of Unpack: the tree's, the answer's. -/
theorem un_boxes {w w1 : World} {c1 c2 : Array Value} {T1 T2 : TypeId} (h : Below ((w.alloc (Obj.cells c1 T1)).alloc (Obj.cells c2 T2)).heap.size ((w.alloc (Obj.cells c1 T1)).alloc (Obj.cells c2 T2)) w1) :
    w1.heap[w.heap.size]? = some (Obj.cells c1 T1 (0, 0)) ∧ w1.heap[w.heap.size + 1]? = some (Obj.cells c2 T2 (0, 0)) ∧ Below w.heap.size w w1 ∧ w.heap.size + 2 ≤ w1.heap.size := by
  have hs := h.size
  simp at hs
  refine ⟨?_, ?_, below_alloc_then _ (Below.trans ((Below.refl _ _).alloc (Nat.le_refl _) _) (h.mono (by simp))), by omega⟩
  · rw [h.block _ (by simp; omega)]
    exact (Below.heap_alloc _ _ _ (by simp)).trans (World.alloc_heap_new _ _)
  · rw [h.block _ (by simp)]
    exact World.alloc_heap_new_at _ _ (by simp)
set_option maxRecDepth 100000 in
theorem unpack_valid (t : TreeV) (v : Value) (he : (t.validE != 0) = true) (w : World) :
    Calls Try.prog 22 #[t.val, v] w fun r w' => r = .returned (.tuple #[pathVal 0 0 (.slice none 0 0), .int .i64 t.validE]) ∧ Below w.heap.size w w' := by
  have HV := Lib.hid (valid_any t)
  unfold TreeV.val pathVal at *
  go_enter Try.func22, Try.ntmps22
  go_wp2_with fail
  refine (HV.out _).mono ?_; rintro r w1 ⟨rfl, hb1⟩
  obtain ⟨hT, hR, hB1, hs1⟩ := un_boxes hb1
  obtain ⟨cR, fR⟩ := blockC hR
  have HR := Lib.hid hR
  clear hb1 hT hR
  go_wp2
  exact bodyPost_ret (path_results rfl rfl rfl (b := w.heap.size + 1) (block_set3 HR.out _ _ _) rfl) rfl ⟨rfl, below_set3 hB1 (by omega) _ _ _⟩
set_option maxRecDepth 100000 in
theorem unpack_short (t : TreeV) (a : Option Addr) (n cap : Nat) (he : t.validE = 0) (hn : n < 16) (w : World) :
    Calls Try.prog 22 #[t.val, .slice a n cap] w fun r w' => r = .returned (.tuple #[pathVal 0 0 (.slice none 0 0), .int .i64 3]) ∧ Below w.heap.size w w' := by
  have HV := Lib.hid (valid_any t)
  rw [he] at HV
  unfold TreeV.val pathVal at *
  go_enter Try.func22, Try.ntmps22
  go_wp2_with fail
  refine (HV.out _).mono ?_; rintro r w1 ⟨rfl, hb1⟩
  obtain ⟨hT, hR, hB1, hs1⟩ := un_boxes hb1
  obtain ⟨cR, fR⟩ := blockC hR
  have HR := Lib.hid hR
  clear hb1 hT hR
  go_wp2
  exact bodyPost_ret (path_results rfl rfl rfl (b := w.heap.size + 1) (block_set3 HR.out _ _ _) rfl) rfl ⟨rfl, below_set3 hB1 (by omega) _ _ _⟩
theorem digZ_drop (zs : List Int) (p n : Nat) : digZ (zs.drop 16) p n = digZ zs (16 + p) n := by
  unfold digZ; rw [List.drop_drop]
theorem cutL_drop (zs : List Int) (p i n : Nat) : cutL (zs.drop 16) p i n = cutL zs (16 + p) i n := by
  unfold cutL
  refine List.map_congr_left fun k _ => ?_
  rw [digZ_drop, Nat.add_assoc]
/-- Steps that were made. -/
def StepsT (w : World) (base : Nat) (v : Value) (ss : List StepV) : Prop :=
  ∃ xs, w.ownsRow base 109 2 v ss.length xs ∧ ∀ j, j < ss.length → ∃ u u', xs[j * 2]? = some u ∧ xs[j * 2 + 1]? = some u' ∧ RowT w u (nths ss j).1 ∧ RowT w u' (nths ss j).2
theorem StepsT.at {w : World} {base : Nat} {v : Value} {ss : List StepV} (h : StepsT w base v ss) : StepsAt w v ss := by
  obtain ⟨xs, hown, hx⟩ := h
  rcases hown.2 with ⟨rfl, e⟩ | ⟨g, cap, cur, rfl, -, hg, hn, -, hc, ht⟩
  · exact ⟨none, 0, fun _ => .slice none 0 0, fun _ => .slice none 0 0, by rw [e], fun _ => rfl, .inl (List.eq_nil_of_length_eq_zero e)⟩
  · refine ⟨some ⟨g, 0, none⟩, cap, fun i => xs.getD (i * 2) (.slice none 0 0), fun i => xs.getD (i * 2 + 1) (.slice none 0 0), rfl, fun e => absurd e (by simp), .inr ⟨g, 0, rfl, (Array.getElem?_eq_some_iff.1 hg).1, fun i hi => ?_⟩⟩
    obtain ⟨u, u', h1, h2, h3, h4⟩ := hx i hi
    have e1 : xs.getD (i * 2) (.slice none 0 0) = u := by rw [List.getD_eq_getElem?_getD, h1]; rfl
    have e2 : xs.getD (i * 2 + 1) (.slice none 0 0) = u' := by rw [List.getD_eq_getElem?_getD, h2]; rfl
    dsimp only
    rw [e1, e2]
    refine ⟨?_, ?_, h3.rows, h4.rows⟩
    · rw [cell_of_heap hg, Nat.zero_add]
      rw [← ht, List.getElem?_take, if_pos (by omega)] at h1
      simpa using h1
    · rw [cell_of_heap hg, Nat.zero_add]
      rw [← ht, List.getElem?_take, if_pos (by omega)] at h2
      simpa using h2
theorem nths_snoc {ss : List StepV} {s : StepV} {j : Nat} (h : j < ss.length) : nths (ss ++ [s]) j = nths ss j := by
  unfold nths; rw [List.getD_eq_getElem?_getD, List.getD_eq_getElem?_getD, List.getElem?_append_left h]
theorem nths_snoc' {ss : List StepV} {s : StepV} : nths (ss ++ [s]) ss.length = s := by
  unfold nths; rw [List.getD_eq_getElem?_getD, List.getElem?_append_right (Nat.le_refl _), Nat.sub_self]; rfl
/-- One step more. -/
theorem stepsT_snoc {w w' : World} {base : Nat} {v' : Value} {ss : List StepV} {xs : List Value} {u u' : Value} {s : StepV} (hx : ∀ j, j < ss.length → ∃ u u', xs[j * 2]? = some u ∧ xs[j * 2 + 1]? = some u' ∧ RowT w u (nths ss j).1 ∧ RowT w u' (nths ss j).2)
    (hl : xs.length = ss.length * 2) (hown : w'.ownsRow base 109 2 v' (ss.length + 1) (xs ++ [u, u'])) (hk : Keeps [5, 24] w w') (h1 : RowT w' u s.1) (h2 : RowT w' u' s.2) : StepsT w' base v' (ss ++ [s]) := by
  have hln : (ss ++ [s]).length = ss.length + 1 := by simp
  refine ⟨xs ++ [u, u'], by rw [hln]; exact hown, fun j hj => ?_⟩
  rw [hln] at hj
  by_cases e : j = ss.length
  · rw [e]
    refine ⟨u, u', ?_, ?_, by rw [nths_snoc']; exact h1, by rw [nths_snoc']; exact h2⟩
    · rw [List.getElem?_append_right (by omega), hl, Nat.sub_self]; rfl
    · rw [List.getElem?_append_right (by omega), hl, show ss.length * 2 + 1 - ss.length * 2 = 1 by omega]; rfl
  · obtain ⟨a, b, k1, k2, k3, k4⟩ := hx j (by omega)
    refine ⟨a, b, ?_, ?_, by rw [nths_snoc (by omega)]; exact k3.keep hk (by decide) (by decide), by rw [nths_snoc (by omega)]; exact k4.keep hk (by decide) (by decide)⟩
    · rw [List.getElem?_append_left (by omega)]; exact k1
    · rw [List.getElem?_append_left (by omega)]; exact k2
theorem StepsT.move {w w' : World} {base : Nat} {v : Value} {ss : List StepV} (h : StepsT w base v ss) (hk : Keeps [5, 24] w w') (ho : ∀ g, base ≤ g → g < w.heap.size → w'.heap[g]? = w.heap[g]?) : StepsT w' base v ss := by
  obtain ⟨xs, hown, hx⟩ := h
  refine ⟨xs, ownsRow_same' hown ho, fun j hj => ?_⟩
  obtain ⟨a, b, k1, k2, k3, k4⟩ := hx j hj
  exact ⟨a, b, k1, k2, k3.keep hk (by decide) (by decide), k4.keep hk (by decide) (by decide)⟩
/-- All but one block, below a bound, is as it was. -/
structure ButP (P Q : Nat) (w w' : World) : Prop where
  os : w'.os = w.os
  tape : w'.tape = w.tape
  output : w'.output = w.output
  size : w.heap.size ≤ w'.heap.size
  block : ∀ b, b < Q → b ≠ P → w'.heap[b]? = w.heap[b]?
theorem ButP.refl (P Q : Nat) (w : World) : ButP P Q w w := ⟨rfl, rfl, rfl, Nat.le_refl _, fun _ _ _ => rfl⟩
theorem ButP.trans {P Q : Nat} {w w1 w2 : World} (h : ButP P Q w w1) (h2 : ButP P Q w1 w2) : ButP P Q w w2 :=
  ⟨h2.os.trans h.os, h2.tape.trans h.tape, h2.output.trans h.output, Nat.le_trans h.size h2.size, fun b hb hP => (h2.block b hb hP).trans (h.block b hb hP)⟩
theorem butP_below {P Q B : Nat} {w w' : World} (h : Below B w w') (hQ : Q ≤ B) : ButP P Q w w' :=
  ⟨h.os, h.tape, h.output, h.size, fun b hb _ => h.block b (by omega)⟩
theorem butP_set {P Q : Nat} (w : World) {b i : Nat} (v : Value) (h : b = P ∨ Q ≤ b) : ButP P Q w (w.setCell ⟨b, i, none⟩ v) :=
  ⟨rfl, rfl, rfl, by simp, fun c hc hP => Below.heap_setCell _ _ _ _ (by rcases h with rfl | h; exact hP; (show c ≠ b; omega))⟩
theorem butP_grown {P Q : Nat} {w w' : World} {row : Option Nat} (h : w.grownBy w' row) (hQ : Q ≤ w.heap.size) (hr : ∀ g, row = some g → Q ≤ g) : ButP P Q w w' :=
  ⟨h.os, h.tape, h.output, h.size, fun b hb _ => h.block b (by omega) (fun e => by have := hr b e.symm; omega)⟩
theorem ButP.below {P Q : Nat} {w w' : World} (h : ButP P Q w w') (hPQ : P ≤ Q) : Below P w w' :=
  ⟨h.os, h.tape, h.output, h.size, fun b hb => h.block b (by omega) (by omega)⟩
theorem StageAt.same {w w' : World} {g : Nat} {R A F T ch : Nat → Int} {la ro : Nat → Bool} {j : Nat} (h : StageAt w g R A F T ch la ro j) (e : w'.heap[g]? = w.heap[g]?) : StageAt w' g R A F T ch la ro j := by
  obtain ⟨h0, h1, h2, h3, h4, h5, h6⟩ := h
  have k : ∀ o, w'.cell? ⟨g, o, none⟩ = w.cell? ⟨g, o, none⟩ := fun o => World.cell?_of_block e
  exact ⟨(k _).trans h0, (k _).trans h1, (k _).trans h2, (k _).trans h3, (k _).trans h4, (k _).trans h5, (k _).trans h6⟩
theorem cells_new2 (W : World) (a0 a1 : Value) (T : TypeId) (n : Nat) (hn : n = W.heap.size) : ∀ j u, [a0, a1][j]? = some u → (W.alloc (.cells #[a0, a1] T)).cell? (Addr.add ⟨n, 0, none⟩ j) = some u := by
  subst hn
  intro j u hj
  have h := cell_of_heap (World.alloc_heap_new W (.cells #[a0, a1] T)) j
  rw [show Addr.add ⟨W.heap.size, 0, none⟩ j = ⟨W.heap.size, j, none⟩ by first | (simp [Addr.add]; done) | (simp [Addr.add]; omega), h]
  rw [← Array.getElem?_toList]; exact hj
theorem info_step : (Try.prog.info? 109).map (fun i => (i.zero, i.size, i.bytes)) = some (some (.agg #[.slice none 0 0, .slice none 0 0]), 2, 48) := by kernel_rfl
/-- The steps of packed bytes, up to the k-th. -/
def unL (t : TreeV) (total leaf i : Nat) (zs : List Int) : Nat → List StepV
  | 0 => []
  | k + 1 => unL t total leaf i zs k ++ [(cutL zs (16 + needN t total leaf k * i) i (chN t total leaf k), cutL zs (16 + needN t total leaf k * i + chN t total leaf k * i) i (afN t total leaf k))]
/-- Unpack's error, behind Valid and the length. -/
def unE (t : TreeV) (total leaf i L : Nat) : Int :=
  if t.spotE total 0 leaf ≠ 0 then t.spotE total 0 leaf else if L < needN t total leaf ((t.rowsOf total).length - 1) * i then 3 else if needN t total leaf ((t.rowsOf total).length - 1) * i < L then 9 else 0
def UnSays (t : TreeV) (total leaf i L : Nat) (zs : List Int) (w : World) (p : Value) (e : Int) : Prop :=
  e = unE t total leaf i L ∧ ((e ≠ 0 ∧ p = pathVal 0 0 (.slice none 0 0)) ∨ (e = 0 ∧ ∃ v, p = pathVal total leaf v ∧ StepsAt w v (unL t total leaf i zs ((t.rowsOf total).length - 1))))
def nN (t : TreeV) (total leaf k : Nat) : Nat := chN t total leaf k + afN t total leaf k
def needB (t : TreeV) (total leaf i k : Nat) : Nat := needN t total leaf k * i
theorem unL_length (t : TreeV) (total leaf i : Nat) (zs : List Int) : ∀ k, (unL t total leaf i zs k).length = k
  | 0 => rfl
  | k + 1 => by simp [unL, unL_length t total leaf i zs k]
theorem needN_mono (t : TreeV) (total leaf : Nat) {j k : Nat} (h : j ≤ k) : needN t total leaf j ≤ needN t total leaf k := by
  induction k with
  | zero => obtain rfl : j = 0 := by omega
            exact Nat.le_refl _
  | succ k ih =>
    by_cases e : j = k + 1
    · rw [e]; exact Nat.le_refl _
    · have := ih (by omega)
      simp only [needN]; omega
theorem needB_succ (t : TreeV) (total leaf i k : Nat) : needB t total leaf i (k + 1) = needB t total leaf i k + nN t total leaf k * i := by
  unfold needB nN; simp only [needN]; rw [Nat.add_mul]
theorem needB_mono (t : TreeV) (total leaf i : Nat) {j k : Nat} (h : j ≤ k) : needB t total leaf i j ≤ needB t total leaf i k := Nat.mul_le_mul_right i (needN_mono t total leaf h)
set_option maxRecDepth 100000 in
set_option maxHeartbeats 1000000 in
theorem unpack_go (t : TreeV) (hlt : 0 ≤ t.l ∧ t.l ≤ 4294967295) (v : Value) (zs : List Int) (total leaf i L : Nat) (hval : t.validE = 0) (hti : t.i = (i : Int)) (hi1 : 1 ≤ i) (hi2 : i ≤ 64) (htot : (total : Int) ≤ 18446744073709551615) (hto : valZ zs 0 8 = (total : Int)) (hle : valZ zs 8 8 = (leaf : Int)) (hz : ∀ z ∈ zs, 0 ≤ z ∧ z ≤ 255) (hL : zs.length = L + 16) (hm : L ≤ 1048576) (m : Nat) (hmm0 : (t.rowsOf total).length - 1 = m) (Post : World → Value → Int → Prop)
    (P1 : Hid (t.spotE total 0 leaf ≠ 0 → ∀ w', Post w' (pathVal 0 0 (.slice none 0 0)) (t.spotE total 0 leaf)))
    (P3 : Hid (t.spotE total 0 leaf = 0 → L < needN t total leaf m * i → ∀ w', Post w' (pathVal 0 0 (.slice none 0 0)) 3))
    (P9 : Hid (t.spotE total 0 leaf = 0 → needN t total leaf m * i < L → ∀ w', Post w' (pathVal 0 0 (.slice none 0 0)) 9))
    (P0 : Hid (t.spotE total 0 leaf = 0 → needN t total leaf m * i = L → ∀ w' u, StepsAt w' u (unL t total leaf i zs m) → Post w' (pathVal total leaf u) 0))
    (w : World) (hv : Holds8 w v zs) (hcap : ∀ a n c, v = .slice a n c → n ≤ c) :
    Calls Try.prog 22 #[t.val, v] w fun r w' => ∃ p e, r = .returned (.tuple #[p, .int .i64 e]) ∧ Post w' p e ∧ Below w.heap.size w w' := by
  have hcut : ∀ (B L p : Nat) (v : Value) (n : Nat) (w : World), RestIs B L p v → p + n * i ≤ L → L ≤ 1048576 → Calls Try.prog 54 #[v, .int .u64 n, .int .i64 t.i] w fun e w' => ∃ l r, e = .returned (.tuple #[l, r]) ∧ w'.ownsRow w.heap.size 24 1 l n (cutV B p i n) ∧ RestIs B L (p + n * i) r ∧ Below w.heap.size w w' := by
    intro B L p v n w h1 h2 h3
    rw [hti]
    exact cut_ok B L p v n i w h1 hi1 hi2 h2 h3
  have HCUT := Lib.hid hcut
  clear hcut
  have HTI := Lib.hid hti
  have hj1 : 1 ≤ t.i := by omega
  have hj2 : t.i ≤ 64 := by omega
  clear hti
  have HTO := Lib.hid hto
  have HLE := Lib.hid hle
  clear hto hle
  have HV := Lib.hid (valid_any t)
  rw [hval] at HV
  have HH := Lib.hid hv
  have HWe := Lib.hid (way_errs t hlt total htot leaf)
  have hws := way_stages t hlt total htot leaf
  rw [hmm0] at hws
  have HWo := Lib.hid hws
  clear hws
  have HWK := Lib.hid (way_kids hlt htot (leaf := leaf))
  have HWF := Lib.hid (way_facts hlt htot (leaf := leaf))
  obtain ⟨a, cap, rfl, hcell⟩ := hv
  have hcp := hcap _ _ _ rfl
  clear hcap
  have HL := Lib.hid hL
  have hL16 : (zs.length : Int) - 16 = (L : Int) := by omega
  have h16 : 16 ≤ zs.length := by omega
  have hmz : zs.length ≤ 1048592 := by omega
  have HMM := Lib.hid hmm0
  clear hL hmm0
  unfold TreeV.val pathVal at *
  go_enter Try.func22, Try.ntmps22
  go_wp2_with fail
  refine (HV.out _).mono ?_; rintro r w1 ⟨rfl, hb1⟩
  obtain ⟨hT, hR, hB1, hs1⟩ := un_boxes hb1
  have HT := Lib.hid hT
  have HR := Lib.hid hR
  obtain ⟨cR, fR⟩ := blockC hR
  obtain ⟨cT, fT⟩ := blockC hT
  clear hb1 hT hR
  have k1 : w.heap.size < w1.heap.size := by omega
  have k1' : w.heap.size + 1 < w1.heap.size := by omega
  go_wp2_with fail
  refine (load64w_ok zs _ 0 total HTO.out _ (holds8_below HH.out (hB1.alloc (by omega) _)) hz (by have := HL.out; omega) (by have := HL.out; omega)).mono ?_; rintro r w2 ⟨rfl, rfl⟩
  go_wp2_with fail
  refine (load64w_ok zs _ 8 leaf HLE.out _ (holds8_below HH.out (hB1.alloc (by omega) _)) hz (by have := HL.out; omega) (by have := HL.out; omega)).mono ?_; rintro r w2 ⟨rfl, rfl⟩
  go_wp2_with fail
  by_cases he : t.spotE total 0 leaf = 0
  · refine (HWo.out he _).mono ?_; rintro r w2 ⟨g, gc, rfl, hst2, hb2⟩
    have hB2 : Below w1.heap.size w1 w2 := below_alloc_then _ hb2
    have hs2 := hB2.size
    have hP2 : w2.heap[w1.heap.size]? = some (Obj.cells #[.int .u64 total, .int .u64 leaf, .slice none 0 0] 58 (0, 0)) := (hb2.block _ (by simp)).trans (World.alloc_heap_new _ _)
    have hT2 := (hB2.block _ k1).trans HT.out
    have hR2 := (hB2.block _ k1').trans HR.out
    have hsP := (Array.getElem?_eq_some_iff.1 hP2).1
    have hBw : Below w.heap.size w w2 := hB1.trans (hB2.mono (by omega))
    have HP2 := Lib.hid hP2
    have HT2 := Lib.hid hT2
    have HR2 := Lib.hid hR2
    have HST := Lib.hid hst2
    obtain ⟨hk, h0, -⟩ := HWK.out he
    have F := HWF.out he
    have m1 := F.two
    have m2 := F.most
    have HK := Lib.hid hk
    have HE := Lib.hid he
    clear hb2 hst2 hP2 hT2 hR2 he hk F cR fR cT fT HV HWe HWo HWK HWF
    have hmm := HMM.out
    have hgm : 1 ≤ m := by omega
    have hgm2 : m ≤ 255 := by omega
    clear hmm m1 m2
    have hgs := HST.out.1
    generalize w1.heap.size = P at *
    have hw2 : w.heap.size < w2.heap.size := by omega
    have hw2' : w.heap.size + 1 < w2.heap.size := by omega
    go_wp2_with fail
    go_loopw [61, 11] (fun j o wr => ∃ (k : Nat), j = .int .i64 k ∧ o = .int .u64 ((needB t total leaf i k : Nat) : Int) ∧ k ≤ m ∧ needB t total leaf i k ≤ L ∧ Below w2.heap.size w2 wr) (fun j _ _ => m - (intOf j).toNat)
    case atStart => exact ⟨0, rfl, by simp [needN, needB], by omega, by simp [needN, needB], Below.refl _ _⟩
    case round =>
      obtain ⟨k, rfl, rfl, hk, hneed, hb⟩ := hrel
      have hsr := hb.size
      have hwr : w.heap.size < wr.heap.size := by omega
      have hwr' : w.heap.size + 1 < wr.heap.size := by omega
      have hR3 := (hb.block _ hw2').trans HR2.out
      have HR3 := Lib.hid hR3
      obtain ⟨cT, fT⟩ := blockC ((hb.block _ hw2).trans HT2.out)
      obtain ⟨cR, fR⟩ := blockC hR3
      have hBwr : Below w.heap.size w wr := hBw.trans (hb.mono (by omega))
      clear hR3
      by_cases hlk : k < m
      · obtain ⟨c0, c1, c2, c3, c4, c5, c6⟩ := (HST.out.2 k hlk).below hgs hb
        dsimp only at c0 c1 c2 c3 c4 c5
        obtain ⟨h1, h2, h3, h4⟩ := HK.out k (by have := HMM.out; omega)
        have hn : ((wayS t total leaf (k + 1)).to_ : Int) - ((wayS t total leaf (k + 1)).frm : Int) - 1 = ((nN t total leaf k : Nat) : Int) := by
          unfold nN chN afN; omega
        have hsucc := needB_succ t total leaf i k
        have hmono := needB_mono t total leaf i (show k + 1 ≤ m by omega)
        have hshort : L < needB t total leaf i m → ∀ w', Post w' (.agg #[.int .u64 0, .int .u64 0, .slice none 0 0]) 3 := fun h => P3.out HE.out h
        have HSH := Lib.hid hshort
        clear hshort h1 h2
        have h5 : 0 ≤ ((wayS t total leaf (k + 1)).frm : Int) := Int.natCast_nonneg _
        generalize ((wayS t total leaf (k + 1)).row : Int) = z0 at *
        generalize ((wayS t total leaf (k + 1)).at_ : Int) = z1 at *
        generalize ((wayS t total leaf (k + 1)).frm : Int) = z2 at *
        generalize ((wayS t total leaf (k + 1)).to_ : Int) = z3 at *
        generalize (wayS t total leaf (k + 1)).last = z4 at *
        generalize (wayS t total leaf (k + 1)).root = z5 at *
        generalize chI t total leaf k = z6 at *
        obtain ⟨nn, hnn⟩ : ∃ nn, nN t total leaf k = nn := ⟨_, rfl⟩
        obtain ⟨nb, hnb⟩ : ∃ nb, needB t total leaf i k = nb := ⟨_, rfl⟩
        obtain ⟨nb1, hnb1⟩ : ∃ nb1, needB t total leaf i (k + 1) = nb1 := ⟨_, rfl⟩
        obtain ⟨nbm, hnbm⟩ : ∃ nbm, needB t total leaf i m = nbm := ⟨_, rfl⟩
        rw [hnn] at hn hsucc
        rw [hnb] at hneed hsucc ⊢
        rw [hnb1] at hsucc hmono
        rw [hnbm] at hmono HSH
        have HN1 := Lib.hid hnb1
        clear hnn hnb hnb1 hnbm h4
        by_cases hA : L < nn
        · have e3 : nn ≤ nn * i := Nat.le_mul_of_pos_right _ hi1
          have HFIN := Lib.hid (show L < nbm by omega)
          clear e3 hsucc hmono
          go_wp2
          exact bodyPost_ret (path_results rfl rfl rfl (b := w.heap.size + 1) ((Below.heap_alloc _ _ _ (by simpa using hwr')).trans (block_set3 HR3.out _ _ _)) rfl) rfl ⟨_, _, rfl, HSH.out HFIN.out _, (below_set3 hBwr (by omega) _ _ _).alloc (by simp; omega) _⟩
        · have hpn : nn * i ≤ 1048576 * 64 := Nat.mul_le_mul (by omega) hi2
          have hpe : (nn : Int) * t.i = ((nn * i : Nat) : Int) := by rw [HTI.out, Int.natCast_mul]
          have hp0 : 0 ≤ (nn : Int) * t.i := by rw [hpe]; omega
          have hp1 : (nn : Int) * t.i ≤ 67108864 := by rw [hpe]; omega
          have hnext : (nb : Int) + (nn : Int) * t.i = (nb1 : Int) := by rw [hpe, hsucc]; omega
          clear hpe hpn hsucc
          by_cases hB : (L : Int) < (nb1 : Int)
          · have HFIN := Lib.hid (show L < nbm by omega)
            have hB' : (L : Int) < (nb : Int) + (nn : Int) * t.i := by rw [hnext]; exact hB
            clear hmono hB hnext
            go_wp2
            exact bodyPost_ret (path_results rfl rfl rfl (b := w.heap.size + 1) ((Below.heap_alloc _ _ _ (by simpa using hwr')).trans (block_set3 HR3.out _ _ _)) rfl) rfl ⟨_, _, rfl, HSH.out HFIN.out _, (below_set3 hBwr (by omega) _ _ _).alloc (by simp; omega) _⟩
          · have hB' : ¬ (L : Int) < (nb : Int) + (nn : Int) * t.i := by rw [hnext]; exact hB
            have HNX := Lib.hid hnext
            clear hnext hmono
            go_wp2
            exact ⟨⟨k + 1, rfl, by rw [HN1.out, HNX.out], by omega, by rw [HN1.out]; omega, hb.alloc hsr _⟩, by simp [intOf]; omega⟩
      · obtain rfl : k = m := by omega
        by_cases hC : needB t total leaf i k < L
        · have HC := Lib.hid hC
          go_wp2
          exact bodyPost_ret (path_results rfl rfl rfl (b := w.heap.size + 1) (block_set3 HR3.out _ _ _) rfl) rfl ⟨_, _, rfl, P9.out HE.out HC.out _, below_set3 hBwr (by omega) _ _ _⟩
        · have hEq : needB t total leaf i k = L := by omega
          obtain ⟨i0, hi0, hz0, hz1, hz2⟩ := info_parts info_u8
          have hmk : (Instr.makeSlice 24 (.int .u64 (L : Nat)) (.int .u64 (L : Nat))).run Try.prog wr = .ok (.slice (some ⟨wr.heap.size, 0, none⟩) L L) (wr.alloc (.cells (List.replicate L (.int .u8 0)).toArray 5)) := by
            have h := run_make (P := Try.prog) wr 24 5 i0 (.int .u8 0) Try.underlying24 hi0 hz0 .u64 .u64 L L (by omega) (Int.le_refl _) (by rw [hz2]; omega) (by omega)
            rw [hz1, Int.toNat_natCast, Nat.mul_one] at h
            have e : madeCells (Value.int .u8 0).cells L = (List.replicate L (.int .u8 0)).toArray := by
              have := toList_madeCells_one (.int .u8 0) L
              rw [← this]; rfl
            rw [e] at h
            exact h
          obtain ⟨ab, ao, rfl, hab, hcl⟩ := hcell.resolve_left (fun e => by rw [e] at h16; simp at h16)
          have HCL := Lib.hid hcl
          clear hcell hcl
          have hln : (zs.drop 16).length = L := by rw [List.length_drop]; have := HL.out; omega
          have hbz : ∀ j u, ((zs.drop 16).map encB)[j]? = some u → (wr.alloc (.cells (List.replicate L (.int .u8 0)).toArray 5)).cell? (Addr.add ⟨ab, ao + 16, none⟩ j) = some u := by
            intro j u hj
            obtain ⟨hj1, rfl⟩ := List.getElem?_eq_some_iff.1 hj
            rw [List.length_map, hln] at hj1
            have hz1 := HCL.out (16 + j) (by have := HL.out; omega)
            rw [Go.WideShapes.add_plain, ((hBwr.alloc (by omega) _).cell (p := ⟨ab, _, none⟩) hab), Nat.add_assoc, hz1]
            simp [encB, nthz, List.getD_eq_getElem?_getD]
            have : 16 + j < zs.length := by have := HL.out; omega
            simp [this]
          have HBZ := Lib.hid hbz
          have hspl : splice (List.replicate L (Value.int .u8 0)) 0 ((zs.drop 16).map encB) = (zs.drop 16).map encB := by
            have hl2 : ((zs.drop 16).map encB).length = L := by rw [List.length_map, hln]
            generalize (zs.drop 16).map encB = cs at hl2 ⊢
            unfold splice
            rw [hl2]; simp
          have HSPL := Lib.hid hspl
          clear hbz hspl
          go_wp2_with ((with_reducible show wpList _ _ _ (Oper.mk (some 105) _ _ _ _ _ :: _) _ _); refine wpList_copy_splice rfl _ _ _ _ rfl 5 Try.underlying24 (by rw [hi0]; simp [hz1]) _ _ _ _ _ _ rfl rfl wr.heap.size 0 (List.replicate L (.int .u8 0)) 5 (World.alloc_heap_new _ _) ((zs.drop 16).map encB) (by rw [List.length_map, hln]; have := HL.out; show _ = min _ _; omega) (by intro h; rw [List.length_map, hln] at h; refine ⟨rfl, ⟨ab, ao + 16, none⟩, ?_, HBZ.out⟩; first | rfl | (rw [if_neg (by have := HL.out; omega)]) | (exfalso; have := HL.out; omega)) (by rw [List.length_map, hln]; simp) (by intro u hu; obtain ⟨z, -, rfl⟩ := List.mem_map.1 hu; rfl) wr.heap.size wr ((Below.refl _ _).alloc (Nat.le_refl _) _) (Nat.le_refl _) ?_; intro w3 HG3 hB3)
          all_goals
            rw [HSPL.out] at HG3
            have hG3 := HG3.out
            have hN3 := (Array.getElem?_eq_some_iff.1 hG3).1
            have hs3 := hB3.size
            have hP3 := (hB3.block _ (by omega)).trans ((hb.block P hsP).trans HP2.out)
            have hT3 := (hB3.block _ hwr).trans ((hb.block _ hw2).trans HT2.out)
            have hR3' := (hB3.block _ hwr').trans HR3.out
            have hB3w : Below w.heap.size w w3 := hBwr.trans (hB3.mono (by omega))
            have hst3 : ∀ j, j < k → StageAt w3 g _ _ _ _ _ _ _ j := fun j hj => ((HST.out.2 j hj).below hgs hb).below (by omega) hB3
            have hgP : g ≠ P := by
              intro e
              have h1 := (hst3 0 (by omega)).1
              rw [e, cell_of_heap hP3] at h1
              simp at h1
            have hPN : P < wr.heap.size := by omega
            have HST3 := Lib.hid hst3
            have HT3 := Lib.hid hT3
            have HR3' := Lib.hid hR3'
            have HP3 := Lib.hid hP3
            have HEQ := Lib.hid hEq
            clear hG3 hP3 hT3 hR3' hst3 cT fT cR fR hmk hEq
            have hg3 : g < w3.heap.size := by omega
            generalize wr.heap.size = N at *
            go_loopw [108, 15] (fun jj o wr => ∃ (j : Nat) (v : Value), jj = .int .i64 j ∧ j ≤ k ∧ RestIs N L (needB t total leaf i j) o ∧ ButP P w3.heap.size w3 wr ∧ wr.heap[P]? = some (Obj.cells #[.int .u64 total, .int .u64 leaf, v] 58 (0, 0)) ∧ Hid (StepsT wr w3.heap.size v (unL t total leaf i zs j))) (fun jj _ _ => k - (intOf jj).toNat)
            case atStart => exact ⟨0, _, rfl, by omega, ⟨0, by simp [needB, needN], fun _ => by simp [needB, needN]⟩, ButP.refl _ _ _, HP3.out, Lib.hid ⟨[], World.ownsRow_nil _ _ _ _, fun j h => absurd h (Nat.not_lt_zero _)⟩⟩
            case round =>
              obtain ⟨j, v, rfl, hj, ⟨q, rfl, hq⟩, hbp, hPj, HSt⟩ := hrel
              have hsz := hbp.size
              have hTj := (hbp.block _ (by omega) (by omega)).trans HT3.out
              have hRj := (hbp.block _ (by omega) (by omega)).trans HR3'.out
              have hNj := (hbp.block N (by omega) (by omega)).trans HG3.out
              have hgj := hbp.block g (by omega) hgP
              have HRj := Lib.hid hRj
              have HNj := Lib.hid hNj
              obtain ⟨cT, fT⟩ := blockC hTj
              obtain ⟨cR, fR⟩ := blockC hRj
              obtain ⟨cP, fP⟩ := blockC hPj
              have HPj := Lib.hid hPj
              have HTj := Lib.hid hTj
              have q1 : w.heap.size < wr.heap.size := by omega
              have q2 : P < wr.heap.size := by omega
              have q3 : w.heap.size + 1 < wr.heap.size := by omega
              clear hTj hRj hNj hPj
              by_cases hlj : j < k
              · obtain ⟨c0, c1, c2, c3, c4, c5, c6⟩ := (HST3.out j hlj).same hgj
                dsimp only at c0 c1 c2 c3 c4 c5
                obtain ⟨h1, h2, h3, h4⟩ := HK.out j (by have := HMM.out; omega)
                have hch := chI_eq (t := t) (total := total) (leaf := leaf) (k := j) ⟨h1, h2, h3, h4⟩
                rw [hch] at c6
                have haf : ((wayS t total leaf (j + 1)).to_ : Int) - ((wayS t total leaf (j + 1)).frm : Int) - ((chN t total leaf j : Nat) : Int) - 1 = ((afN t total leaf j : Nat) : Int) := by
                  unfold chN afN; omega
                have hf0 : 0 ≤ ((wayS t total leaf (j + 1)).frm : Int) := Int.natCast_nonneg _
                have hsucc := needB_succ t total leaf i j
                have hmono := needB_mono t total leaf i (show j + 1 ≤ k by omega)
                have hnn : nN t total leaf j * i = chN t total leaf j * i + afN t total leaf j * i := by unfold nN; rw [Nat.add_mul]
                have hunl : unL t total leaf i zs (j + 1) = unL t total leaf i zs j ++ [(cutL (zs.drop 16) (needB t total leaf i j) i (chN t total leaf j), cutL (zs.drop 16) (needB t total leaf i j + chN t total leaf j * i) i (afN t total leaf j))] := by
                  rw [cutL_drop, cutL_drop, ← Nat.add_assoc]; rfl
                have HUNL := Lib.hid hunl
                have hE := HEQ.out
                clear h1 h2 h4 hch hunl
                generalize ((wayS t total leaf (j + 1)).row : Int) = z0 at *
                generalize ((wayS t total leaf (j + 1)).at_ : Int) = z1 at *
                generalize ((wayS t total leaf (j + 1)).frm : Int) = z2 at *
                generalize ((wayS t total leaf (j + 1)).to_ : Int) = z3 at *
                generalize (wayS t total leaf (j + 1)).last = z4 at *
                generalize (wayS t total leaf (j + 1)).root = z5 at *
                generalize needB t total leaf i k = nk at *
                obtain ⟨p0, hp0⟩ : ∃ p0, needB t total leaf i j = p0 := ⟨_, rfl⟩
                obtain ⟨p1, hp1⟩ : ∃ p1, needB t total leaf i (j + 1) = p1 := ⟨_, rfl⟩
                rw [hp0, hp1] at hsucc
                rw [hp1] at hmono
                rw [hp0] at hq HUNL ⊢
                have HP1 := Lib.hid hp1
                clear hp0 hp1
                generalize chN t total leaf j = c at *
                generalize afN t total leaf j = d at *
                have hrest : RestIs N L p0 (.slice (some ⟨N, q, none⟩) (L - p0) (L - p0)) := ⟨q, rfl, hq⟩
                have HB1 := Lib.hid (show p0 + c * i ≤ L by omega)
                have HB2 := Lib.hid (show p0 + c * i + d * i ≤ L by omega)
                have HB3' := Lib.hid (show p0 + c * i + d * i = p1 by omega)
                clear hsucc hmono hnn hE
                obtain ⟨xs, hownv, hxs⟩ := HSt.out
                have HXS := Lib.hid hxs
                have hul := unL_length t total leaf i zs j
                have HUL := Lib.hid hul
                have hxl : xs.length = j * 2 := by rw [hownv.1, hul]
                rw [hul] at hownv
                clear hxs hul
                go_wp2_with fail
                refine (HCUT.out N L p0 _ c _ hrest HB1.out hm).mono ?_; rintro r w4 ⟨l1, r1, rfl, hown1, ⟨qa, rfl, hqa⟩, hb4⟩
                have hs4 := hb4.size
                simp at hs4
                have hBp4 : Below wr.heap.size wr w4 := below_alloc_then _ (Below.trans ((Below.refl _ _).alloc (Nat.le_refl _) _) (hb4.mono (by simp)))
                have hS4 : w4.heap[wr.heap.size + 1]? = some (Obj.cells #[.slice none 0 0, .slice none 0 0] 109 (0, 0)) := (hb4.block _ (by simp)).trans (World.alloc_heap_new_at _ _ (by simp))
                have hG4 : w4.heap[wr.heap.size]? = some (Obj.cells #[.int .i64 z0, .int .u64 z1, .int .u64 z2, .int .u64 z3, .bool z4, .bool z5, .int .u64 (c : Nat)] 89 (0, 0)) := (hb4.block _ (by simp; omega)).trans ((Below.heap_alloc _ _ _ (by simp)).trans (World.alloc_heap_new _ _))
                have hT4 := (hBp4.block _ q1).trans HTj.out
                have hP4 := (hBp4.block _ q2).trans HPj.out
                have hN4 := (hBp4.block N (by omega)).trans HNj.out
                have hrow1 := rowT_of_cut hown1 hN4 (by rw [hln]; exact HB1.out)
                obtain ⟨a1, ca1, rfl⟩ := ownsRow_any hown1
                obtain ⟨cT4, fT4⟩ := blockC hT4
                obtain ⟨cG4, fG4⟩ := blockC hG4
                obtain ⟨cS4, fS4⟩ := blockC hS4
                have q4 : w.heap.size < w4.heap.size := by omega
                have q5 : wr.heap.size < w4.heap.size := by omega
                have q6 : wr.heap.size + 1 < w4.heap.size := by omega
                have HS4 := Lib.hid hS4
                have HN4 := Lib.hid hN4
                have HP4 := Lib.hid hP4
                have HT4 := Lib.hid hT4
                have HROW1 := Lib.hid hrow1
                have hrest2 : RestIs N L (p0 + c * i) (.slice (some ⟨N, qa, none⟩) (L - (p0 + c * i)) (L - (p0 + c * i))) := ⟨qa, rfl, hqa⟩
                clear hS4 hG4 hT4 hP4 hN4 hrow1 hb4 hown1 cT fT cP fP cR fR c0 c1 c2 c3 c4 c5 c6
                go_wp2_with fail
                refine (HCUT.out N L (p0 + c * i) _ d _ hrest2 HB2.out hm).mono ?_; rintro r w5 ⟨l2, r2, rfl, hown2, ⟨qb, rfl, hqb⟩, hb5⟩
                have hs5 := hb5.size
                simp at hs5
                have hS5 : w5.heap[wr.heap.size + 1]? = some (Obj.cells #[.slice a1 c ca1, .slice none 0 0] 109 (0, 0)) := (hb5.block _ (by simp; omega)).trans (block_setCell HS4.out _)
                have hP5 := (hb5.block P (by simp; omega)).trans ((Below.heap_setCell w4 ⟨wr.heap.size + 1, 0, none⟩ (.slice a1 c ca1) P (by show P ≠ wr.heap.size + 1; omega)).trans HP4.out)
                have hN5 := (hb5.block N (by simp; omega)).trans ((Below.heap_setCell w4 ⟨wr.heap.size + 1, 0, none⟩ (.slice a1 c ca1) N (by show N ≠ wr.heap.size + 1; omega)).trans HN4.out)
                have hrow2 := rowT_of_cut hown2 hN5 (by rw [hln]; exact HB2.out)
                obtain ⟨a2, ca2, rfl⟩ := ownsRow_any hown2
                have hown5 : (w5.setCell ⟨wr.heap.size + 1, 1, none⟩ (.slice a2 d ca2)).ownsRow w3.heap.size 109 2 v j xs := ownsRow_same' hownv (fun g _ g2 => (Below.heap_setCell _ _ _ _ (by show g ≠ wr.heap.size + 1; omega)).trans ((hb5.block g (by simp; omega)).trans ((Below.heap_setCell _ _ _ _ (by show g ≠ wr.heap.size + 1; omega)).trans (hBp4.block g g2))))
                have hK5 : Keeps [5, 24] w4 (w5.setCell ⟨wr.heap.size + 1, 1, none⟩ (.slice a2 d ca2)) := (keeps_set HS4.out (by decide) _).trans ((keeps_below hb5).trans (keeps_set hS5 (by decide) _))
                have hK5' : Keeps [5, 24] w5 (w5.setCell ⟨wr.heap.size + 1, 1, none⟩ (.slice a2 d ca2)) := keeps_set hS5 (by decide) _
                have hBu5 : ButP P w3.heap.size w3 (w5.setCell ⟨wr.heap.size + 1, 1, none⟩ (.slice a2 d ca2)) := hbp.trans ((butP_below hBp4 hsz).trans ((butP_set w4 _ (.inr (by omega))).trans ((butP_below hb5 (by simp; omega)).trans (butP_set w5 _ (.inr (by omega))))))
                obtain ⟨cS5, fS5⟩ := blockC hS5
                obtain ⟨cP5, fP5⟩ := blockC hP5
                have q7 : P < w5.heap.size := by omega
                have q8 : wr.heap.size + 1 < w5.heap.size := by omega
                have HP5 := Lib.hid hP5
                have HK5 := Lib.hid hK5
                have HK5' := Lib.hid hK5'
                have HBU5 := Lib.hid hBu5
                have HROW2 := Lib.hid hrow2
                have HOWN5 := Lib.hid hown5
                obtain ⟨i1, hi1', hy0, hy1, hy2⟩ := info_parts info_step
                clear hS5 hP5 hN5 hrow2 hK5 hK5' hBu5 hb5 hown2 cT4 fT4 cG4 fG4 cS4 fS4 hown5 hownv
                go_wp2_with (at_builtin; refine wpList_append_own _ rfl _ _ 56 rfl w3.heap.size 109 i1 _ 2 48 Try.underlying56 hi1' hy0 hy1 hy2 rfl (by decide) _ j xs rfl (HOWN5.out.alloc _) ⟨w5.heap.size, 0, none⟩ 1 1 [.slice a1 c ca1, .slice a2 d ca2] rfl rfl (cells_new2 _ _ _ _ _ (by simp)) (by simp [Value.oneCell']) (by unfold maxLen; omega) (by omega) (by simp; omega) ?_; intro v' w6 hown' hgrow _; obtain ⟨g6, c6', rfl⟩ := ownsRow_form hown' (by omega); have hP6 := (hgrow.block P (by simp; omega) (fun e => by have := (HOWN5.out.lt P e.symm).1; omega)).trans ((Below.heap_alloc _ _ P (by simpa using q7)).trans ((Below.heap_setCell w5 ⟨wr.heap.size + 1, 1, none⟩ (.slice a2 d ca2) P (by show P ≠ wr.heap.size + 1; omega)).trans HP5.out)); obtain ⟨cP6, fP6⟩ := blockC hP6; have HP6 := Lib.hid hP6; clear hP6)
                have hK6 : Keeps [5, 24] (w5.setCell ⟨wr.heap.size + 1, 1, none⟩ (.slice a2 d ca2)) (w6.setCell ⟨P, 2, none⟩ (.slice (some ⟨g6, 0, none⟩) (j + 1) c6')) := (keeps_alloc _ _).trans ((keeps_grown (HOWN5.out.alloc _) hgrow (by decide)).trans (keeps_set HP6.out (by decide) _))
                refine ⟨⟨j + 1, .slice (some ⟨g6, 0, none⟩) (j + 1) c6', rfl, by omega, ?_, ?_, block_setCell HP6.out _, Lib.hid ?_⟩, by simp [intOf]; omega⟩
                · rw [HP1.out, ← HB3'.out]; exact ⟨qb, rfl, hqb⟩
                · exact HBU5.out.trans ((butP_below ((Below.refl _ _).alloc (Nat.le_refl _) _) (by simp; omega)).trans ((butP_grown hgrow (by simp; omega) (fun g e => (HOWN5.out.lt g e).1)).trans (butP_set w6 _ (.inl rfl))))
                · rw [HUNL.out]
                  refine stepsT_snoc (w := wr) (xs := xs) (u := .slice a1 c ca1) (u' := .slice a2 d ca2) HXS.out (by rw [HUL.out]; exact hxl) ?_ ((keeps_below hBp4).trans (HK5.out.trans hK6)) (HROW1.out.keep (HK5.out.trans hK6) (by decide) (by decide)) (HROW2.out.keep (HK5'.out.trans hK6) (by decide) (by decide))
                  rw [HUL.out]
                  exact ownsRow_setCell_below hown' (a := ⟨P, 2, none⟩) (by show P < w3.heap.size; omega) _
              · obtain rfl : j = k := by omega
                obtain ⟨xs, hownv, -⟩ := id HSt.out
                obtain ⟨av, cav, rfl⟩ := ownsRow_any hownv
                clear hownv
                go_wp2
                exact bodyPost_ret (path_results rfl rfl rfl (b := w.heap.size + 1) (block_set3 HRj.out _ _ _) rfl) rfl ⟨_, _, rfl, P0.out HE.out HEQ.out _ _ (HSt.out.move (keeps_set3 HRj.out (by decide) _ _ _) (fun g g1 _ => other_set3 (by omega) _ _ _)).at, below_set3 (hB3w.trans ((hbp.below (by omega)).mono (by omega))) (by omega) _ _ _⟩
  · have HE := Lib.hid he
    have q : (t.spotE total 0 leaf != 0) = true := by rw [bne_iff_ne]; exact he
    refine (HWe.out he _).mono ?_; rintro r w2 ⟨rfl, hb2⟩
    have hB2 : Below w1.heap.size w1 w2 := below_alloc_then _ hb2
    have hR2 := (hB2.block _ k1').trans HR.out
    have HR2 := Lib.hid hR2
    obtain ⟨cR2, fR2⟩ := blockC hR2
    clear hb2 hR2 cR fR he
    go_wp2
    exact bodyPost_ret (path_results rfl rfl rfl (b := w.heap.size + 1) (block_set3 HR2.out _ _ _) rfl) rfl ⟨_, _, rfl, P1.out HE.out _, below_set3 (hB1.trans (hB2.mono (by omega))) (by omega) _ _ _⟩
end Go.Proofs.Ytkmgkeodmkfnpaa
