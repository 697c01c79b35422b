/- The bytes of a path, by the program. No condition. -/
import Derived.Test.YtkmgkeodmkfnpaaPackB
import Derived.Test.YtkmgkeodmkfnpaaPackD
namespace Go.Proofs.Ytkmgkeodmkfnpaa
open Go.ChangeShapes Go.WideShapes Go.ChangeAt Go.RowKit Go.Joins Go.Shelf Go.Maps
attribute [local go_sem] Oper.semAt_some

theorem own_ne {w : World} {B size n N : Nat} {e T : TypeId} {v : Value} {xs : List Value} {c : Array Value} {fr : Nat × Nat} (h : w.ownsRow B e size v n xs) (hN : w.heap[N]? = some (.cells c T fr)) (hT : T ≠ e) : some N ≠ v.ownBlock := by
  intro e'
  rcases h.2 with ⟨rfl, -⟩ | ⟨g, cap, cur, rfl, -, hg, -⟩
  · simp [Value.ownBlock] at e'
  · simp only [Value.ownBlock, Option.some.injEq] at e'
    subst e'
    rw [hg] at hN
    simp only [Option.some.injEq, Obj.cells.injEq] at hN
    exact hT hN.2.1.symm
theorem append_bytes {w : World} {ops : Array Oper} {rest : List Oper} {o : Oper} {a : Act} {Q : Exit → Act → World → Prop} (hgd : o.guard = none) (s x : Operand)
    (ho : o.op = .call { callee := .builtin .append, args := #[s, x], argTypes := #[24, 24] }) (B : Nat) (L : List Int) (v : Value) (hs : a.eval s = v) (hown : w.ownsRow B 5 1 v L.length (L.map encB))
    (u : Value) (zs : List Int) (hx : a.eval x = u) (hz : Holds8 w u zs) (hne : zs ≠ []) (hlen : L.length + zs.length ≤ 1099511627776) (hB : B ≤ w.heap.size)
    (h : ∀ v' w', w'.ownsRow B 5 1 v' (L ++ zs).length ((L ++ zs).map encB) → w.grownBy w' v.ownBlock → wpList Try.prog ops Q rest (a.put o.dst v') w') : wpList Try.prog ops Q (o :: rest) a w := by
  obtain ⟨i0, hi, hz0, hz1, hz2⟩ := info_parts info_u8
  obtain ⟨ad, cap, rfl, hz⟩ := hz
  obtain ⟨b, off, rfl, hb1, hb2⟩ := hz.resolve_left hne
  refine wpList_append_own w hgd s x _ ho B 5 i0 (.int .u8 0) 1 1 Try.underlying24 hi hz0 hz1 hz2 rfl (by decide) v L.length (L.map encB) hs hown ⟨b, off, none⟩ zs.length cap (zs.map encB) hx (by simp) (cells_of_map hb2) (by simp [encB, Value.oneCell']) (by unfold maxLen; omega) (by omega) hB ?_
  intro v' w' hown' hgrow _
  exact h v' w' (by rw [List.length_append, List.map_append]; exact hown') hgrow
/-- The first k digests, one behind the other. -/
def rowL (ds : List (List Int)) : Nat → List Int
  | 0 => []
  | k + 1 => rowL ds k ++ nthd ds k
def stepsL (ss : List StepV) : Nat → List Int
  | 0 => []
  | k + 1 => stepsL ss k ++ (rowL (nths ss k).1 (nths ss k).1.length ++ rowL (nths ss k).2 (nths ss k).2.length)
/-- A path's bytes, up to its k-th step. -/
def packL (total leaf : Nat) (ss : List StepV) (k : Nat) : List Int := (bytesK total 8 ++ bytesK leaf 8) ++ stepsL ss k
theorem rowL_length {ds : List (List Int)} {i : Nat} (h : ∀ d ∈ ds, d.length = i) : ∀ k, k ≤ ds.length → (rowL ds k).length = k * i
  | 0, _ => by simp [rowL]
  | k + 1, hk => by
    simp only [rowL, List.length_append, rowL_length h k (by omega), h _ (nthd_mem (k := k) (by omega))]
    rw [Nat.add_mul, Nat.one_mul]
theorem row_snoc (L : List Int) (ds : List (List Int)) (k : Nat) : L ++ rowL ds (k + 1) = L ++ rowL ds k ++ nthd ds k := by simp [rowL]
theorem nths_mem {ss : List StepV} {k : Nat} (h : k < ss.length) : nths ss k ∈ ss := by
  unfold nths; rw [List.getD_eq_getElem?_getD, List.getElem?_eq_getElem h]; exact List.getElem_mem h
theorem stepsL_length {ss : List StepV} {i : Nat} (ho : StepsOk 1048576 ss) (hi : i ≤ 64) (h : ∀ j, j < ss.length → ∀ d ∈ (nths ss j).1 ++ (nths ss j).2, d.length = i) : ∀ k, k ≤ ss.length → (stepsL ss k).length ≤ k * 134217728
  | 0, _ => by simp [stepsL]
  | k + 1, hk => by
    have h0 := stepsL_length ho hi h k (by omega)
    obtain ⟨o1, o2⟩ := ho.2 _ (nths_mem (k := k) (by omega))
    have h1 := rowL_length (fun d hd => h k (by omega) d (List.mem_append_left _ hd)) (nths ss k).1.length (Nat.le_refl _)
    have h2 := rowL_length (fun d hd => h k (by omega) d (List.mem_append_right _ hd)) (nths ss k).2.length (Nat.le_refl _)
    have m1 : (nths ss k).1.length * i ≤ 1048576 * 64 := Nat.mul_le_mul o1.1 hi
    have m2 : (nths ss k).2.length * i ≤ 1048576 * 64 := Nat.mul_le_mul o2.1 hi
    simp only [stepsL, List.length_append, h1, h2]
    omega
theorem packL_length {total leaf : Nat} {ss : List StepV} {k : Nat} : (packL total leaf ss k).length = 16 + (stepsL ss k).length := by
  simp only [packL, List.length_append, bytesK_length]
theorem packL_succ (total leaf : Nat) (ss : List StepV) (k : Nat) : packL total leaf ss (k + 1) = packL total leaf ss k ++ rowL (nths ss k).1 (nths ss k).1.length ++ rowL (nths ss k).2 (nths ss k).2.length := by
  simp only [packL, stepsL, List.append_assoc]
/-- What a way's answer is, for the stages that follow. -/
def StagesIs (w : World) (g m : Nat) (R A F T ch : Nat → Int) (la ro : Nat → Bool) : Prop := g < w.heap.size ∧ ∀ j, j < m → StageAt w g R A F T ch la ro j
theorem StagesIs.below {w w' : World} {g m : Nat} {R A F T ch : Nat → Int} {la ro : Nat → Bool} (h : StagesIs w g m R A F T ch la ro) (hb : Below w.heap.size w w') : StagesIs w' g m R A F T ch la ro :=
  ⟨Nat.lt_of_lt_of_le h.1 hb.size, fun j hj => (h.2 j hj).below h.1 hb⟩
theorem packBoxes (w : World) {cs1 : Array Value} {T1 T2 : TypeId} {a b u : Value} : ∀ o, ((w.alloc (.cells cs1 T1)).alloc (.cells #[a, b, u] T2)).cell? ⟨w.heap.size + 1, o, none⟩ = #[a, b, u][o]? := by
  intro o
  have e : (w.alloc (.cells cs1 T1)).heap.size = w.heap.size + 1 := by simp
  rw [← e, cell_of_heap (World.alloc_heap_new (w.alloc (.cells cs1 T1)) _) o]
theorem holds_of_own {w : World} {B : Nat} {v : Value} {L : List Int} (h : w.ownsRow B 5 1 v L.length (L.map encB)) : Holds8 w v L := by
  rcases h.2 with ⟨rfl, e⟩ | ⟨g, cap, cur, rfl, -, hg, hn, -, hc, ht⟩
  · exact ⟨none, 0, by rw [e], .inl (List.eq_nil_of_length_eq_zero e)⟩
  · refine ⟨some ⟨g, 0, none⟩, cap, rfl, .inr ⟨g, 0, rfl, (Array.getElem?_eq_some_iff.1 hg).1, fun i hi => ?_⟩⟩
    have := h.cells (g := g) rfl i (.int .u8 (nthz L i)) (by simp [hi, encB, nthz, List.getD_eq_getElem?_getD])
    rw [Go.WideShapes.add_plain] at this
    exact this
set_option maxRecDepth 100000 in
set_option maxHeartbeats 1000000 in
theorem pack_ok (t : TreeV) (total leaf : Nat) (htot : (total : Int) ≤ 18446744073709551615) (hleaf : (leaf : Int) ≤ 18446744073709551615) (u : Value) (ss : List StepV) (w : World) (hs : StepsAt w u ss) (ho : StepsOk 1048576 ss) (m : Nat) (hm : m ≤ 255) (hm0 : 1 ≤ m) (hi : 1 ≤ t.i ∧ t.i ≤ 64)
    (R A F T ch af : Nat → Int) (la ro : Nat → Bool)
    (HW : Hid (∀ w, Calls Try.prog 33 #[t.val, .int .u64 total, .int .u64 leaf] w fun e w' => ∃ g cap, e = .returned (.tuple #[.slice (some ⟨g, 0, none⟩) m cap, .int .i64 0]) ∧ StagesIs w' g m R A F T ch la ro ∧ Below w.heap.size w w'))
    (HF : Hid (∀ j, j < m → 0 ≤ F j ∧ F j ≤ T j ∧ T j ≤ 18446744073709551615 ∧ 0 ≤ ch j ∧ 0 ≤ af j ∧ af j = T j - F j - ch j - 1)) :
    Calls Try.prog 20 #[t.val, .agg #[.int .u64 total, .int .u64 leaf, u]] w fun r w' => ∃ v e, r = .returned (.tuple #[v, .int .i64 e]) ∧ ((¬ FitsP t.i m ch af ss ∧ v = .slice none 0 0 ∧ e = 4) ∨ (FitsP t.i m ch af ss ∧ e = 0 ∧ Holds8 w' v (packL total leaf ss ss.length))) ∧ Below w.heap.size w w' := by
  have HS := Lib.hid hs
  have HFit := Lib.hid (fun (w1 : World) (g cap : Nat) (h1 : StepsAt w1 u ss) (h2 : StagesIs w1 g m R A F T ch la ro) => fits_any t total leaf u ss w1 h1 ho g cap m h2.1 hm hm0 R A F T ch af la ro h2.2 HF.out)
  obtain ⟨ua, uc, U, V, rfl, -, hst⟩ := hs
  unfold TreeV.val at *
  go_enter Try.func20, Try.ntmps20
  go_wp2_with fail
  refine (HW.out _).mono ?_; rintro r w1 ⟨g, cap, rfl, hst1, hb1⟩
  have hs1 := hb1.size
  simp at hs1
  have k1 : w.heap.size < w1.heap.size := by omega
  have k1' : w.heap.size + 1 < w1.heap.size := by omega
  have hB1 : Below w.heap.size w w1 := below_alloc_then _ (Below.trans ((Below.refl _ _).alloc (Nat.le_refl _) _) (hb1.mono (by simp)))
  obtain ⟨hc1, hf1⟩ := bcell hb1
  go_wp2_with fail
  refine (HFit.out _ g cap (HS.out.below hB1) hst1).mono ?_; rintro r w2 ⟨b, rfl, hbf, hb2⟩
  have hs2 := hb2.size
  have hB2 : Below w.heap.size w w2 := hB1.trans (hb2.mono (by omega))
  have hBX := hb1.trans (hb2.mono hb1.size)
  obtain ⟨hc2, hf2⟩ := bcell hBX
  cases b with
  | false =>
    go_wp2
    exact bodyPost_ret (results_tmp2 (fn := Try.f20) (t := 4) (u := 5) rfl _ _ _) rfl ⟨_, _, rfl, .inl ⟨fun h => absurd (hbf.2 h) (by simp), rfl, rfl⟩, hB2⟩
  | true =>
    have hfit := hbf.1 rfl
    obtain ⟨i0, hi0, hz0, hz1, hz2⟩ := info_parts info_u8
    have c0 : w2.cell? ⟨w.heap.size + 1, 0, none⟩ = some (.int .u64 total) := (hc2 _ 0 (by simp)).trans (packBoxes w 0)
    have c1 : w2.cell? ⟨w.heap.size + 1, 1, none⟩ = some (.int .u64 leaf) := (hc2 _ 1 (by simp)).trans (packBoxes w 1)
    have c2 : w2.cell? ⟨w.heap.size + 1, 2, none⟩ = some (.slice ua ss.length uc) := (hc2 _ 2 (by simp)).trans (packBoxes w 2)
    have k2 : w.heap.size + 1 < w2.heap.size := by omega
    have HFP := Lib.hid hfit
    go_wp2_with fail
    clear hc1 hf1 hc2 hf2 hbf hfit hBX hb1 hst1
    go_region_held3 (fun w' => w'.cell? ⟨w.heap.size + 1, 0, none⟩ = some (.int .u64 total) ∧ w'.cell? ⟨w.heap.size + 1, 1, none⟩ = some (.int .u64 leaf))
      (first | go_keep | exact ⟨(hBc.cell (p := ⟨w.heap.size + 1, 0, none⟩) k2).trans c0, (hBc.cell (p := ⟨w.heap.size + 1, 1, none⟩) k2).trans c1⟩ | exact ⟨(hBb.cell (p := ⟨w.heap.size + 1, 0, none⟩) k2).trans c0, (hBb.cell (p := ⟨w.heap.size + 1, 1, none⟩) k2).trans c1⟩ | exact ⟨(hBa.cell (p := ⟨w.heap.size + 1, 0, none⟩) k2).trans c0, (hBa.cell (p := ⟨w.heap.size + 1, 1, none⟩) k2).trans c1⟩)
      (first
        | (go_at_call_of 49 (Value.int .u64 (total : Nat)); refine (store64_ok total htot _).mono ?_; rintro e wa ⟨va, rfl, howna, hba⟩; have hBa : Below w2.heap.size w2 wa := (by refine Below.trans ?_ (hba.mono (by simp)); repeat (first | exact Below.refl _ _ | refine Below.drew ?_)); have hsa := hBa.size; have howna2 : wa.ownsRow w2.heap.size 5 1 va 8 ((bytesK total 8).map encB) := ownsRow_le howna (by simp); clear howna hba)
        | (go_at_call_of 49 (Value.int .u64 (leaf : Nat)); refine (store64_ok leaf hleaf _).mono ?_; rintro e wb ⟨vb, rfl, hownb, hbb⟩; have hBab : Below wa.heap.size wa wb := (by refine Below.trans ?_ (hbb.mono (by simp)); repeat (first | exact Below.refl _ _ | refine Below.drew ?_)); have hBb : Below w2.heap.size w2 wb := hBa.trans (hBab.mono hsa); have hownab : wb.ownsRow w2.heap.size 5 1 va 8 ((bytesK total 8).map encB) := ownsRow_same' howna2 (fun g _ g2 => hBab.block g g2); have hsrcb := src_of_own hownb (by simp [encB, Value.oneCell']); clear hownb hbb)
        | (refine step_append_now (by rfl) _ _ _ (by rfl) w2 w2.heap.size rfl (by first | exact hBb | exact hBb.drew | exact hBb.drew.drew) 5 i0 (.int .u8 0) 1 Try.underlying24 hi0 hz0 hz1 hz2 rfl va 8 ((bytesK total 8).map encB) (by rfl) (by first | exact hownab | exact hownab.drew | exact hownab.drew.drew) vb 8 ((bytesK leaf 8).map encB) (by rfl) (by first | exact hsrcb | exact hsrcb.below (Below.refl _ _).drew | exact hsrcb.below (Below.refl _ _).drew.drew) (by unfold maxLen; omega) (by omega) ?_; intro vc wc hownc hBc))
    have hown0 : wc.ownsRow w2.heap.size 5 1 vc (packL total leaf ss 0).length ((packL total leaf ss 0).map encB) := by
      have e : (packL total leaf ss 0).length = 8 + 8 := by rw [packL_length]; rfl
      have e2 : (packL total leaf ss 0).map encB = (bytesK total 8).map encB ++ (bytesK leaf 8).map encB := by simp [packL, stepsL]
      rw [e, e2]; exact hownc
    have c2c : wc.cell? ⟨w.heap.size + 1, 2, none⟩ = some (.slice ua ss.length uc) := (hBc.cell (p := ⟨w.heap.size + 1, 2, none⟩) k2).trans c2
    obtain ⟨hfl, hfs⟩ := HFP.out
    subst hfl
    have hlen := stepsL_length (i := t.i.toNat) ho (by omega) (fun j hj d hd => by have := (hfs j (by omega)).2.2 d hd; omega)
    have HL := Lib.hid hlen
    have HFS := Lib.hid hfs
    clear hownc hownab hsrcb hBa hBb hBab howna2 hlen hfs
    obtain ⟨bu, ou, rfl, hbw, hst'⟩ := hst.resolve_left (fun e => by rw [e] at hm0; simp at hm0)
    have HU := Lib.hid hst'
    have HO := Lib.hid ho
    clear hst hst' ho hs1
    go_wp2_with fail
    go_loopw [42, 8] (fun i o wr => ∃ (j : Nat) (v : Value), i = .int .i64 j ∧ o = v ∧ j ≤ ss.length ∧ wr.ownsRow w2.heap.size 5 1 v (packL total leaf ss j).length ((packL total leaf ss j).map encB) ∧ Below w2.heap.size w2 wr) (fun i _ _ => ss.length - (intOf i).toNat)
    case atStart => exact ⟨0, vc, rfl, rfl, by omega, hown0, hBc⟩
    case round =>
      obtain ⟨j, v, rfl, rfl, hj, hown, hb⟩ := hrel
      have hsr := hb.size
      have hBr : Below w.heap.size w wr := hB2.trans (hb.mono (by omega))
      by_cases hlt : j < ss.length
      · obtain ⟨cu, cv, ru, rv⟩ := HU.out j hlt
        have cu' : wr.cell? ⟨bu, ou + j * 2, none⟩ = some (U j) := (hBr.cell (p := ⟨bu, _, none⟩) hbw).trans cu
        have cv' : wr.cell? ⟨bu, ou + j * 2 + 1, none⟩ = some (V j) := (hBr.cell (p := ⟨bu, _, none⟩) hbw).trans cv
        have HRU := Lib.hid ru
        have HRV := Lib.hid rv
        obtain ⟨au, ku, VU, eu, -, -⟩ := ru
        obtain ⟨av, kv, VV, ev, -, -⟩ := rv
        rw [eu] at cu' HRU
        rw [ev] at cv' HRV
        clear cu cv eu ev
        obtain ⟨⟨lu, -⟩, lv, -⟩ := HO.out.2 _ (nths_mem hlt)
        have hL := HL.out j hj
        have hf3 := (HFS.out j (by omega)).2.2
        have HF3 := Lib.hid hf3
        have hr1 := rowL_length (i := t.i.toNat) (ds := (nths ss j).1) (fun d hd => by have := hf3 d (List.mem_append_left _ hd); omega)
        have hr2 := rowL_length (i := t.i.toNat) (ds := (nths ss j).2) (fun d hd => by have := hf3 d (List.mem_append_right _ hd); omega)
        have HR1 := Lib.hid hr1
        have HR2 := Lib.hid hr2
        clear hf3 hr1 hr2
        generalize hlu : (nths ss j).1.length = nb at *
        generalize hlv : (nths ss j).2.length = na at *
        go_wp2_with fail
        have hownA := hown.alloc (Obj.cells #[.slice au nb ku, .slice av na kv] 109)
        have hbA : Below w2.heap.size w2 (wr.alloc (Obj.cells #[.slice au nb ku, .slice av na kv] 109)) := hb.alloc hsr _
        have hboxA := World.alloc_heap_new wr (Obj.cells #[.slice au nb ku, .slice av na kv] 109)
        generalize wr.heap.size = N at *
        go_loopw [49, 8] (fun i o wr => ∃ (k : Nat) (v : Value), i = .int .i64 k ∧ o = v ∧ k ≤ nb ∧ wr.ownsRow w2.heap.size 5 1 v (packL total leaf ss j ++ rowL (nths ss j).1 k).length ((packL total leaf ss j ++ rowL (nths ss j).1 k).map encB) ∧ Below w2.heap.size w2 wr ∧ wr.heap[N]? = some (Obj.cells #[.slice au nb ku, .slice av na kv] 109 (0, 0))) (fun i _ _ => nb - (intOf i).toNat)
        case atStart => exact ⟨0, _, rfl, rfl, by omega, by simpa [rowL] using hownA, hbA, hboxA⟩
        case round =>
          obtain ⟨k, v1, rfl, rfl, hk, hown1, hb1, hbox1⟩ := hrel
          have hs1 := hb1.size
          have hN1 := (Array.getElem?_eq_some_iff.1 hbox1).1
          have hBr1 : Below w.heap.size w wr := hB2.trans (hb1.mono (by omega))
          by_cases hlk : k < nb
          · obtain ⟨-, b', o', x, cx, rfl, hb', hcell, hh8⟩ := RowsAt.elem (HRU.out.below hBr1) hlk
            have hlz : (nthd (nths ss j).1 k).length = t.i.toNat := by have := HF3.out _ (List.mem_append_left _ (nthd_mem (ds := (nths ss j).1) (k := k) (by omega))); omega
            have hne : nthd (nths ss j).1 k ≠ [] := fun e => by rw [e] at hlz; simp at hlz; omega
            have hmul : k * t.i.toNat ≤ 1048576 * 64 := Nat.mul_le_mul (by omega) (by omega)
            have hln : (packL total leaf ss j ++ rowL (nths ss j).1 k).length + (nthd (nths ss j).1 k).length ≤ 1099511627776 := by
              rw [List.length_append, packL_length, HR1.out k (by omega), hlz]; omega
            clear hlz
            go_wp2_with (at_builtin; refine append_bytes rfl _ _ rfl w2.heap.size (packL total leaf ss j ++ rowL (nths ss j).1 k) _ rfl hown1 _ (nthd (nths ss j).1 k) rfl hh8 hne hln (by omega) ?_; intro v' w' hown' hgrow)
            go_roundw
            case measure => simp [intOf]; omega
            refine ⟨k + 1, v', rfl, rfl, by omega, ?_, hb1.grown hgrow (by omega) (fun k e => (hown1.lt k e).1), (hgrow.block N hN1 (own_ne hown1 hbox1 (by decide))).trans hbox1⟩
            rw [row_snoc]
            exact hown'
          · obtain rfl : k = nb := by omega
            have cv1 : wr.cell? ⟨N, 1, none⟩ = some (.slice av na kv) := cell_of_heap hbox1 1
            go_wp2_with fail
            go_loopw [60, 8] (fun i o wr => ∃ (k' : Nat) (v : Value), i = .int .i64 k' ∧ o = v ∧ k' ≤ na ∧ wr.ownsRow w2.heap.size 5 1 v (packL total leaf ss j ++ rowL (nths ss j).1 k ++ rowL (nths ss j).2 k').length ((packL total leaf ss j ++ rowL (nths ss j).1 k ++ rowL (nths ss j).2 k').map encB) ∧ Below w2.heap.size w2 wr) (fun i _ _ => na - (intOf i).toNat)
            case atStart => exact ⟨0, _, rfl, rfl, by omega, by simpa [rowL] using hown1, hb1⟩
            case round =>
              obtain ⟨k', v2, rfl, rfl, hk', hown2, hb2'⟩ := hrel
              have hs2' := hb2'.size
              have hBr2 : Below w.heap.size w wr := hB2.trans (hb2'.mono (by omega))
              by_cases hlk' : k' < na
              · obtain ⟨-, b', o', x, cx, rfl, hb', hcell, hh8⟩ := RowsAt.elem (HRV.out.below hBr2) hlk'
                have hlz : (nthd (nths ss j).2 k').length = t.i.toNat := by have := HF3.out _ (List.mem_append_right _ (nthd_mem (ds := (nths ss j).2) (k := k') (by omega))); omega
                have hne : nthd (nths ss j).2 k' ≠ [] := fun e => by rw [e] at hlz; simp at hlz; omega
                have hmul : k * t.i.toNat ≤ 1048576 * 64 := Nat.mul_le_mul (by omega) (by omega)
                have hmul' : k' * t.i.toNat ≤ 1048576 * 64 := Nat.mul_le_mul (by omega) (by omega)
                have hln : (packL total leaf ss j ++ rowL (nths ss j).1 k ++ rowL (nths ss j).2 k').length + (nthd (nths ss j).2 k').length ≤ 1099511627776 := by
                  rw [List.length_append, List.length_append, packL_length, HR1.out k (by omega), HR2.out k' (by omega), hlz]; omega
                clear hlz
                go_wp2_with (at_builtin; refine append_bytes rfl _ _ rfl w2.heap.size (packL total leaf ss j ++ rowL (nths ss j).1 k ++ rowL (nths ss j).2 k') _ rfl hown2 _ (nthd (nths ss j).2 k') rfl hh8 hne hln (by omega) ?_; intro v' w' hown' hgrow)
                go_roundw
                case measure => simp [intOf]; omega
                refine ⟨k' + 1, v', rfl, rfl, by omega, ?_, hb2'.grown hgrow (by omega) (fun k e => (hown2.lt k e).1)⟩
                rw [row_snoc]
                exact hown'
              · obtain rfl : k' = na := by omega
                go_wp2
                refine ⟨⟨j + 1, _, rfl, rfl, by omega, ?_, hb2'⟩, by simp [intOf]; omega⟩
                rw [packL_succ, hlu, hlv]
                exact hown2
      · obtain rfl : j = ss.length := by omega
        go_wp2
        exact bodyPost_ret (results_tmp2 (fn := Try.f20) (t := 4) (u := 5) rfl _ _ _) rfl ⟨_, _, rfl, .inr ⟨HFP.out, rfl, holds_of_own hown⟩, hBr⟩
end Go.Proofs.Ytkmgkeodmkfnpaa
