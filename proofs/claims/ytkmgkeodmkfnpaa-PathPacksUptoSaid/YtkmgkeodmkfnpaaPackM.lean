/- What Unpack answers, of every tree and bytes, by the program; the law's walk, the reference's answer handed in. No condition. -/
import Derived.Test.YtkmgkeodmkfnpaaPackI
import Derived.Test.YtkmgkeodmkfnpaaPackL
import Derived.Test.YtkmgkeodmkfnpaaPathSizes
namespace Go.Proofs.Ytkmgkeodmkfnpaa
open Go.ChangeShapes Go.WideShapes Go.ChangeAt Go.RowKit Go.Joins Go.Shelf Go.Maps
attribute [local go_sem] Oper.semAt_some

structure UnV where
  total : Nat
  leaf : Nat
  steps : List StepV
  err : Int
/-- What Unpack answers. -/
def unF (t : TreeV) (zs : List Int) : UnV :=
  if t.validE ≠ 0 then ⟨0, 0, [], t.validE⟩ else if zs.length < 16 then ⟨0, 0, [], 3⟩
  else if t.spotE (valZ zs 0 8).toNat 0 (valZ zs 8 8).toNat ≠ 0 then ⟨0, 0, [], t.spotE (valZ zs 0 8).toNat 0 (valZ zs 8 8).toNat⟩
  else if zs.length - 16 < needN t (valZ zs 0 8).toNat (valZ zs 8 8).toNat ((t.rowsOf (valZ zs 0 8).toNat).length - 1) * t.i.toNat then ⟨0, 0, [], 3⟩
  else if needN t (valZ zs 0 8).toNat (valZ zs 8 8).toNat ((t.rowsOf (valZ zs 0 8).toNat).length - 1) * t.i.toNat < zs.length - 16 then ⟨0, 0, [], 9⟩
  else ⟨(valZ zs 0 8).toNat, (valZ zs 8 8).toNat, unL t (valZ zs 0 8).toNat (valZ zs 8 8).toNat t.i.toNat zs ((t.rowsOf (valZ zs 0 8).toNat).length - 1), 0⟩
def UnIs (w : World) (p : Value) (e : Int) (F : UnV) : Prop := e = F.err ∧ ∃ u, p = pathVal F.total F.leaf u ∧ StepsAt w u F.steps
theorem stepsAt_nil (w : World) : StepsAt w (.slice none 0 0) [] := ⟨none, 0, fun _ => .slice none 0 0, fun _ => .slice none 0 0, rfl, fun _ => rfl, .inl rfl⟩
theorem cutL_len {zs : List Int} {at_ i n : Nat} (hi : i ≤ 64) (hn : n ≤ 1048576) : LenOk (cutL zs at_ i n) := by
  refine ⟨by rw [cutL_length]; exact hn, fun d hd => ?_⟩
  obtain ⟨k, -, rfl⟩ := List.mem_map.1 hd
  unfold digZ
  rw [List.length_take]; omega
theorem unL_len {t : TreeV} {total leaf i : Nat} {zs : List Int} {L : Nat} (hi : i ≤ 64) (hi1 : 1 ≤ i) (hL : L ≤ 1048576) : ∀ k, needB t total leaf i k ≤ L → ∀ s ∈ unL t total leaf i zs k, LenOk s.1 ∧ LenOk s.2
  | 0, _, s, hs => by simp [unL] at hs
  | k + 1, h, s, hs => by
    have e := needB_succ t total leaf i k
    have hnn : nN t total leaf k * i = chN t total leaf k * i + afN t total leaf k * i := by unfold nN; rw [Nat.add_mul]
    have h1 : chN t total leaf k ≤ chN t total leaf k * i := Nat.le_mul_of_pos_right _ hi1
    have h2 : afN t total leaf k ≤ afN t total leaf k * i := Nat.le_mul_of_pos_right _ hi1
    rcases List.mem_append.1 hs with hs | hs
    · exact unL_len hi hi1 hL k (by omega) s hs
    · obtain rfl := List.mem_singleton.1 hs
      exact ⟨cutL_len hi (by omega), cutL_len hi (by omega)⟩
theorem unF_len {t : TreeV} (hl : 0 ≤ t.l ∧ t.l ≤ 4294967295) {zs : List Int} (hz : ∀ z ∈ zs, 0 ≤ z ∧ z ≤ 255) (hm : zs.length ≤ 1048576) : StepsLen (unF t zs).steps := by
  have h0 : StepsLen ([] : List StepV) := ⟨by simp, by simp⟩
  unfold unF
  split
  · exact h0
  · split
    · exact h0
    · split
      · exact h0
      · rename_i h1 h2 h3
        split
        · exact h0
        · split
          · exact h0
          · rename_i h4 h5
            have h3' : t.spotE (valZ zs 0 8).toNat 0 (valZ zs 8 8).toNat = 0 := by omega
            obtain ⟨b1, b2⟩ := valZ_bounds hz (at_ := 0) 8 (by omega)
            simp only [Nat.reduceMul, Int.reducePow] at b2
            obtain ⟨-, -, i1, i2, -⟩ := way_kids hl (total := (valZ zs 0 8).toNat) (by omega) h3'
            have F := way_facts hl (total := (valZ zs 0 8).toNat) (by omega) h3'
            refine ⟨?_, ?_⟩
            · show (unL t _ _ _ zs _).length ≤ _
              rw [unL_length]; have := F.most; omega
            · exact unL_len (L := zs.length - 16) (by omega) (by omega) (by omega) _ (by show needN t _ _ _ * _ ≤ _; omega)
/-- What a walk through Unpack owes, joined. -/
theorem un_join {t : TreeV} (hl : 0 ≤ t.l ∧ t.l ≤ 4294967295) {zs : List Int} (hz : ∀ z ∈ zs, 0 ≤ z ∧ z ≤ 255) {f : FuncId} {v : Value} {w : World}
    (hva : t.validE ≠ 0 → Calls Try.prog f #[t.val, v] w fun r w' => r = .returned (.tuple #[pathVal 0 0 (.slice none 0 0), .int .i64 t.validE]) ∧ Below w.heap.size w w')
    (hsh : t.validE = 0 → zs.length < 16 → Calls Try.prog f #[t.val, v] w fun r w' => r = .returned (.tuple #[pathVal 0 0 (.slice none 0 0), .int .i64 3]) ∧ Below w.heap.size w w')
    (hgo : ∀ (total leaf i L m : Nat) (Post : World → Value → Int → Prop), t.validE = 0 → t.i = (i : Int) → 1 ≤ i → i ≤ 64 → (total : Int) ≤ 18446744073709551615 → valZ zs 0 8 = (total : Int) → valZ zs 8 8 = (leaf : Int) → zs.length = L + 16 → (t.rowsOf total).length - 1 = m →
      (Hid (t.spotE total 0 leaf ≠ 0 → ∀ w', Post w' (pathVal 0 0 (.slice none 0 0)) (t.spotE total 0 leaf))) →
      (Hid (t.spotE total 0 leaf = 0 → L < needN t total leaf m * i → ∀ w', Post w' (pathVal 0 0 (.slice none 0 0)) 3)) →
      (Hid (t.spotE total 0 leaf = 0 → needN t total leaf m * i < L → ∀ w', Post w' (pathVal 0 0 (.slice none 0 0)) 9)) →
      (Hid (t.spotE total 0 leaf = 0 → needN t total leaf m * i = L → ∀ w' u, StepsAt w' u (unL t total leaf i zs m) → Post w' (pathVal total leaf u) 0)) →
      Calls Try.prog f #[t.val, v] w fun r w' => ∃ p e, r = .returned (.tuple #[p, .int .i64 e]) ∧ Post w' p e ∧ Below w.heap.size w w') :
    Calls Try.prog f #[t.val, v] w fun r w' => ∃ p e, r = .returned (.tuple #[p, .int .i64 e]) ∧ UnIs w' p e (unF t zs) ∧ Below w.heap.size w w' := by
  by_cases h1 : t.validE = 0
  · by_cases h2 : zs.length < 16
    · refine (hsh h1 h2).mono ?_
      rintro r w' ⟨rfl, hb⟩
      refine ⟨_, _, rfl, ?_, hb⟩
      unfold unF
      rw [if_neg (by simp [h1]), if_pos h2]
      exact ⟨rfl, _, rfl, stepsAt_nil _⟩
    · obtain ⟨b1, b2⟩ := valZ_bounds hz (at_ := 0) 8 (by omega)
      obtain ⟨b3, b4⟩ := valZ_bounds hz (at_ := 8) 8 (by omega)
      simp only [Nat.reduceMul, Int.reducePow] at b2 b4
      have hvf := TreeV.valid_facts h1
      have hi : 1 ≤ t.i ∧ t.i ≤ 64 := by
        refine ⟨by omega, ?_⟩
        rcases hvf.1 with e | e <;> rw [e] at hvf <;> simp [sizeK] at hvf <;> omega
      obtain ⟨T, hT⟩ : ∃ T : Nat, valZ zs 0 8 = (T : Int) := ⟨(valZ zs 0 8).toNat, by omega⟩
      obtain ⟨Lf, hLf⟩ : ∃ T : Nat, valZ zs 8 8 = (T : Int) := ⟨(valZ zs 8 8).toNat, by omega⟩
      obtain ⟨i, hii⟩ : ∃ i : Nat, t.i = (i : Int) := ⟨t.i.toNat, by omega⟩
      obtain ⟨L, hL⟩ : ∃ L, zs.length = L + 16 := ⟨zs.length - 16, by omega⟩
      have e1 : (valZ zs 0 8).toNat = T := by rw [hT]; rfl
      have e2 : (valZ zs 8 8).toNat = Lf := by rw [hLf]; rfl
      have e3 : t.i.toNat = i := by rw [hii]; rfl
      have e4 : zs.length - 16 = L := by omega
      have eF : unF t zs = if t.spotE T 0 Lf ≠ 0 then ⟨0, 0, [], t.spotE T 0 Lf⟩ else if L < needN t T Lf ((t.rowsOf T).length - 1) * i then ⟨0, 0, [], 3⟩ else if needN t T Lf ((t.rowsOf T).length - 1) * i < L then ⟨0, 0, [], 9⟩ else ⟨T, Lf, unL t T Lf i zs ((t.rowsOf T).length - 1), 0⟩ := by
        unfold unF
        rw [if_neg (by simp [h1]), if_neg h2, e1, e2, e3, e4]
      rw [hT] at b2
      refine hgo T Lf i L _ (fun w' p e => UnIs w' p e (unF t zs)) h1 hii (by omega) (by omega) (by omega) hT hLf hL rfl (Lib.hid fun h w' => ?_) (Lib.hid fun h k w' => ?_) (Lib.hid fun h k w' => ?_) (Lib.hid fun h k w' u hu => ?_)
      · rw [eF, if_pos h]; exact ⟨rfl, _, rfl, stepsAt_nil _⟩
      · rw [eF, if_neg (by simp [h]), if_pos k]; exact ⟨rfl, _, rfl, stepsAt_nil _⟩
      · rw [eF, if_neg (by simp [h]), if_neg (by omega), if_pos k]; exact ⟨rfl, _, rfl, stepsAt_nil _⟩
      · rw [eF, if_neg (by simp [h]), if_neg (by omega), if_neg (by omega)]; exact ⟨rfl, u, rfl, hu⟩
  · refine (hva h1).mono ?_
    rintro r w' ⟨rfl, hb⟩
    refine ⟨_, _, rfl, ?_, hb⟩
    unfold unF
    rw [if_pos h1]
    exact ⟨rfl, _, rfl, stepsAt_nil _⟩
theorem unpack_any (t : TreeV) (hl : 0 ≤ t.l ∧ t.l ≤ 4294967295) (zs : List Int) (v : Value) (hz : ∀ z ∈ zs, 0 ≤ z ∧ z ≤ 255) (hm : zs.length ≤ 1048576) (hcap : ∀ a n c, v = .slice a n c → n ≤ c) (w : World) (hv : Holds8 w v zs) :
    Calls Try.prog 22 #[t.val, v] w fun r w' => ∃ p e, r = .returned (.tuple #[p, .int .i64 e]) ∧ UnIs w' p e (unF t zs) ∧ Below w.heap.size w w' := by
  refine un_join hl hz (fun h => unpack_valid t v (by rw [bne_iff_ne]; exact h) w) (fun h k => ?_) (fun total leaf i L m Post h1 h2 h3 h4 h5 h6 h7 h8 h9 P1 P3 P9 P0 => unpack_go t hl v zs total leaf i L h1 h2 h3 h4 h5 h6 h7 hz h8 (by omega) m h9 Post P1 P3 P9 P0 w hv hcap)
  obtain ⟨a, cap, rfl, -⟩ := hv
  exact unpack_short t a zs.length cap h k w
theorem packSays_form {t : TreeV} {total leaf : Nat} {ss : List StepV} {w : World} {v : Value} {e : Int} (h : PackSays t total leaf ss w v e) : ∃ a n c, v = .slice a n c := by
  rcases h with ⟨-, -, a, c, h, -⟩ | ⟨-, -, -, a, c, h, -⟩ | ⟨-, -, -, a, c, h, -⟩
  · exact ⟨_, _, _, h⟩
  · exact ⟨_, _, _, h⟩
  · exact ⟨_, _, _, h⟩
set_option maxRecDepth 100000 in
set_option maxHeartbeats 1000000 in
theorem pathPacks_walk (t : TreeV) (hl : 0 ≤ t.l ∧ t.l ≤ 4294967295) (total leaf : Nat) (ht : (total : Int) ≤ 18446744073709551615) (hleaf : (leaf : Int) ≤ 18446744073709551615) (u : Value) (ss : List StepV) (v : Value) (zs : List Int) (hz : ∀ z ∈ zs, 0 ≤ z ∧ z ≤ 255) (hm : zs.length ≤ 1048576) (hcap : ∀ a n c, v = .slice a n c → n ≤ c) (w : World) (hs : StepsAt w u ss) (ho : StepsOk 1048576 ss) (hv : Holds8 w v zs)
    (HRU : Hid (∀ w, Holds8 w v zs → Calls Try.prog 23 #[t.val, v] w fun r w' => ∃ p e, r = .returned (.tuple #[p, .int .i64 e]) ∧ UnIs w' p e (unF t zs) ∧ Below w.heap.size w w')) :
    Calls Try.prog 5 #[t.val, .agg #[.int .u64 total, .int .u64 leaf, u], v] w (Trues w) := by
  have HP := Lib.hid (fun w h => pack_any t hl total leaf ht hleaf u ss w h ho)
  have HR := Lib.hid (fun w h => refPack_any t hl total leaf ht hleaf u ss w h ho)
  have HU := Lib.hid (unpack_any t hl zs v hz hm hcap)
  have HS := Lib.hid hs
  have HV := Lib.hid hv
  have hsame : ∀ (w w' : World) (v v' : Value) (e e' : Int), PackSays t total leaf ss w v e → PackSays t total leaf ss w' v' e' → e = e' ∧ ∃ zs, Holds8 w v zs ∧ Holds8 w' v' zs ∧ zs.length ≤ 1099511627776 := fun _ _ _ _ _ _ h h' => packSays_same ho hl ht h h'
  have HSAME := Lib.hid hsame
  have hlen := unF_len hl hz hm
  generalize unF t zs = F at *
  have HLEN := Lib.hid hlen
  obtain ⟨ua, uc, U, V, rfl, -, -⟩ := hs
  obtain ⟨va, vc, rfl, -⟩ := hv
  clear hsame hlen ho
  unfold TreeV.val at *
  go_enter Try.func5, Try.ntmps5
  go_wp2_with fail
  refine (HP.out _ (HS.out.below (((Below.refl _ _).alloc (Nat.le_refl _) _).alloc (by simp) _))).mono ?_; rintro r w1 ⟨a, e, rfl, hp1, hb1⟩
  have hs1 := hb1.size
  simp at hs1
  have hB1 : Below w.heap.size w w1 := below_alloc_then _ (Below.trans ((Below.refl _ _).alloc (Nat.le_refl _) _) (hb1.mono (by simp)))
  obtain ⟨x1, n1, c1, rfl⟩ := packSays_form hp1
  obtain ⟨hc1, hf1⟩ := bcell hb1
  have HB1 := Lib.hid hb1
  have HP1 := Lib.hid hp1
  clear hp1
  have q1 : w.heap.size < w1.heap.size := by omega
  go_wp2_with fail
  refine (HR.out _ (HS.out.below hB1)).mono ?_; rintro r w2 ⟨c, f, rfl, hp2, hb2⟩
  have hs2 := hb2.size
  obtain ⟨x2, n2, c2, rfl⟩ := packSays_form hp2
  obtain ⟨rfl, qs, hq1, hq2, hql⟩ := HSAME.out _ _ _ _ _ _ HP1.out hp2
  have hB2 : Below w.heap.size w w2 := hB1.trans (hb2.mono (by omega))
  have hBX := HB1.out.trans (hb2.mono HB1.out.size)
  have HBX := Lib.hid hBX
  have HQ1 := Lib.hid (holds8_below hq1 hb2)
  have HQ2 := Lib.hid hq2
  have q2 : w.heap.size < w2.heap.size := by omega
  clear hc1 hf1 hb1 hp2 hq1 hq2
  obtain ⟨hc2, hf2⟩ := bcell hBX
  clear hBX
  generalize hFt : (F.total : Int) = ft at *
  generalize hFl : (F.leaf : Int) = fl at *
  go_wp2_with fail
  refine (HU.out _ (holds8_below HV.out hB2)).mono ?_; rintro r w3 ⟨p, g, rfl, hu3, hb3⟩
  obtain ⟨rfl, u3, rfl, hst3⟩ := hu3
  obtain ⟨a3, k3, U3, V3, rfl, -, -⟩ := id hst3
  have hs3 := hb3.size
  have hB3 : Below w.heap.size w w3 := hB2.trans (hb3.mono (by omega))
  have hBX3 := HBX.out.trans (hb3.mono HBX.out.size)
  have HBX3 := Lib.hid hBX3
  have HST3 := Lib.hid hst3
  have HQ3 := Lib.hid (holds8_below HQ1.out hb3)
  have HQ4 := Lib.hid (holds8_below HQ2.out hb3)
  have q3 : w.heap.size < w3.heap.size := by omega
  clear hc2 hf2 hst3 hb3
  obtain ⟨hc3, hf3⟩ := bcell hBX3
  clear hBX3
  unfold pathVal
  rw [hFt, hFl]
  go_wp2_with fail
  refine (HRU.out _ (holds8_below HV.out (hB3.alloc (by omega) _))).mono ?_; rintro r w4 ⟨p, g, rfl, hu4, hb4⟩
  obtain ⟨rfl, u4, rfl, hst4⟩ := hu4
  obtain ⟨a4, k4, U4, V4, rfl, -, -⟩ := id hst4
  have hs4 := hb4.size
  simp at hs4
  have hB34 : Below w3.heap.size w3 w4 := below_alloc_then _ hb4
  have hP4 : w4.heap[w3.heap.size]? = some (Obj.cells #[.int .u64 ft, .int .u64 fl, .slice a3 F.steps.length k3] 58 (0, 0)) := (hb4.block _ (by simp)).trans (World.alloc_heap_new _ _)
  obtain ⟨cP4, fP4⟩ := blockC hP4
  have HST4 := Lib.hid hst4
  have HST34 := Lib.hid (HST3.out.below hB34)
  have HQ5 := Lib.hid (holds8_below HQ3.out hB34)
  have HQ6 := Lib.hid (holds8_below HQ4.out hB34)
  have hB4 : Below w.heap.size w w4 := hB3.trans (hB34.mono (by omega))
  have q4 : w3.heap.size < w4.heap.size := by omega
  clear hc3 hf3 hst4 hb4 hP4
  unfold pathVal
  rw [hFt, hFl]
  go_wp2_with fail
  refine (lawSame_any qs _ _ _ (holds8_below HQ5.out ((Below.refl _ _).alloc (Nat.le_refl _) _)) (holds8_below HQ6.out ((Below.refl _ _).alloc (Nat.le_refl _) _)) hql).mono ?_; rintro r w5 ⟨rfl, m5, rfl⟩
  go_wp2_with fail
  refine (alike_any ft fl F.steps _ _ _ (HST34.out.below (((Below.refl _ _).alloc (Nat.le_refl _) _).trans (below_draws _ _ _))) (HST4.out.below (((Below.refl _ _).alloc (Nat.le_refl _) _).trans (below_draws _ _ _))) HLEN.out).mono ?_; rintro r w6 ⟨rfl, hb6⟩
  go_wp2_with fail
  refine (pathAwake_any _).mono ?_; rintro r w7 ⟨rfl, hb7⟩
  go_wp2
  go_ret
  have hs6 := hb6.size
  simp at hs6
  refine ⟨rfl, hB4.trans (Below.trans ?_ ((hb6.mono ?_).trans (hb7.mono ?_)))⟩
  · exact ((Below.refl w.heap.size w4).alloc (by omega) _).trans (below_draws _ _ _)
  · simp; omega
  · omega
end Go.Proofs.Ytkmgkeodmkfnpaa
