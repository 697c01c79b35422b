/- The account of all calls; tree.Calls. No condition. -/
import Derived.Test.YtjogmckaakkomaaGreatU
import Derived.Test.YtjogmckaakkomaaGreatB39
set_option linter.all false
set_option maxRecDepth 100000
set_option maxHeartbeats 8000000
namespace Go.Proofs.YtjogmckaakkomaaGreat
open Go.ChangeShapes Go.WideShapes Go.ChangeAt Go.RowKit Go.Joins Go.Shelf Go.Maps
open Go.Lib (hid)
attribute [local go_sem] Oper.semAt_some
/-- A call more behind a list of calls of one's own: where it lies then. -/
theorem wpList_pushC {ops : Array Oper} {rest : List Oper} {o : Oper} {a : Act} {Q : Exit → Act → World → Prop} {w0 W : World} (hgd : o.guard = none) (s x : Operand)
  (ho : o.op = .call { callee := .builtin .append, args := #[s, x], argTypes := #[35, 35] }) (B : Nat) (v : Value) (S : List CallS) (z : CallS) (c : List Value) (hs : a.eval s = v) (hl : CallsO w0 B W v S) (hz : CallAt w0 B W z c) (hc6 : c.length = 6) (hc1 : ∀ u ∈ c, u.oneCell' = true)
  (hx : a.eval x = .slice (some ⟨W.heap.size, 0, none⟩) 1 1) (h63 : S.length ≤ 1099511627776) (hw0 : w0.heap.size ≤ B) (hB : B ≤ W.heap.size) (T : TypeId)
  (h : ∀ v' w', CallsO w0 B w' v' (S ++ [z]) → KB B W w' → Spare (fun k => v.ownBlock ≠ some k) W w' → (v'.ownBlock = v.ownBlock ∨ ∀ g, v'.ownBlock = some g → W.heap.size ≤ g) → wpList Tryz.prog ops Q rest (a.put o.dst v') w') : wpList Tryz.prog ops Q (o :: rest) a (W.alloc (.cells c.toArray T)) := by
 obtain ⟨ic, hic, hzc, hsc, hbc⟩ := info_parts info_call
 obtain ⟨cs, hcl, hown, hxs⟩ := hl
 refine wpList_append_own_at _ hgd s x _ ho B 25 ic _ 6 96 Tryz.underlying35 hic hzc hsc hbc rfl (by decide) v S.length cs.flatten hs (hown.alloc _) ⟨W.heap.size, 0, none⟩ 1 1 c hx (by omega) (fun j u hj => ?_) hc1 (by unfold maxLen; omega) (by omega) (by simp; omega) fun v' w' h2 h3 _ h5 => ?_
 ·rw [Go.WideShapes.add_plain, cell_of_heap (World.alloc_heap_new W _) (0 + j), Nat.zero_add]
  simpa using hj
 have hsp : Spare (fun k => v.ownBlock ≠ some k) W w' := (Spare.of_below _ ((Below.refl _ _).alloc (Nat.le_refl _) _)).trans (Spare.of_grown h3) (fun _ _ h => h)
 have hkb : KB B W w' := ⟨hsp.os, hsp.tape, hsp.output, hsp.size, fun k hk => hsp.block k (by omega) (fun e2 => by
   rcases hown.2 with ⟨rfl, -⟩ | ⟨g, cap, cur, rfl, h4, -⟩
   ·cases e2
   ·simp only [Value.ownBlock, Option.some.injEq] at e2; omega), fun k c hc => by
   rw [hsp.block k (Array.getElem?_eq_some_iff.1 hc).1 (fun e2 => ?_)]
   ·exact hc
   ·rcases hown.2 with ⟨rfl, -⟩ | ⟨g, cap, cur, rfl, -, h5, -⟩
    ·cases e2
    ·simp only [Value.ownBlock, Option.some.injEq] at e2
     subst e2
     rw [h5] at hc
     simp only [Option.some.injEq, Obj.cells.injEq] at hc
     exact absurd hc.2.1 (by decide)⟩
 refine h v' w' (CallsO.snoc (w := W) (cs := cs) hxs hcl hz h2 hw0 hkb) hkb hsp ?_
 rcases h5 with h5 | h5
 ·exact .inl h5
 ·exact .inr fun g hg => by rw [h5] at hg; simp only [World.alloc, Array.size_push, Option.some.injEq] at hg; omega
/-- The account: a list of all calls so far, in a variable. -/
def AccC (w0 : World) (bl : Nat) (done : List (List CallS)) (cur : List CallS) (F : Nat → Prop) (w : World) : Prop :=
 ∃ lv, w.heap[bl]? = some (.cells #[lv] 35 (0, 0)) ∧ w0.heap.size ≤ bl ∧ CallsO w0 w0.heap.size w lv (done.flatten ++ cur) ∧ ∀ k, F k ↔ k = bl ∨ lv.ownBlock = some k
theorem accC_lt {w0 w : World} {bl : Nat} {done : List (List CallS)} {cur : List CallS} {F : Nat → Prop} (h : AccC w0 bl done cur F w) : ∀ k, F k → w0.heap.size ≤ k ∧ k < w.heap.size := by
 obtain ⟨lv, h1, h2, ⟨cs, -, ho, -⟩, h4⟩ := h
 intro k hk
 rcases (h4 k).1 hk with rfl | hk
 ·exact ⟨h2, (Array.getElem?_eq_some_iff.1 h1).1⟩
 ·refine ⟨?_, own_block_lt ho k hk⟩
  rcases ho.2 with ⟨rfl, -⟩ | ⟨g, cap, cur, rfl, h5, -⟩
  ·cases hk
  ·simp only [Value.ownBlock, Option.some.injEq] at hk; omega
theorem flat_bound : ∀ {L : List (List CallS)} {n : Nat}, (∀ l ∈ L, l.length ≤ n) → L.flatten.length ≤ n * L.length
 | [], _, _ => Nat.zero_le _
 | l :: L, n, h => by
  have h1 := h l (List.mem_cons_self ..)
  have h2 := flat_bound (L := L) (n := n) (fun x hx => h x (List.mem_cons_of_mem _ hx))
  simp only [List.flatten_cons, List.length_append, List.length_cons, Nat.mul_add, Nat.mul_one]
  omega
theorem seer_calls {t : TreeV} {kz z1 z2 : List Int} {w0 : World} (hT : TreeOk t kz z1 z2 w0) (bl : Nat) : Seer t kz z1 z2 w0 33 bl (AccC w0 bl) := by
 refine ⟨fun h => accC_lt h, fun h hb hF hB => ?_, fun hc h => ?_, fun h hrow hr hi hdl hcl hw hbo hko hdo hd => ?_⟩
 ·obtain ⟨lv, h1, h2, h3, h4⟩ := h
  exact ⟨lv, by rw [hF bl ((h4 bl).2 (.inl rfl))]; exact h1, h2, h3.kb (Nat.le_refl _) ⟨hb.os, hb.tape, hb.output, hb.size, hb.block, hB⟩ (fun g hg => hF g ((h4 g).2 (.inr hg))), h4⟩
 ·obtain ⟨lv, h1, h2, h3, h4⟩ := h
  exact ⟨lv, h1, h2, by simpa using h3, h4⟩
 ·rename_i done cur F w row i la rt d bv kv dv
  have hlt := accC_lt h
  obtain ⟨lv, h1, h2, h3, h4⟩ := h
  obtain ⟨b0, hb0⟩ : ∃ b0, w.heap.size = b0 := ⟨_, rfl⟩
  have hblw : bl < w.heap.size := (Array.getElem?_eq_some_iff.1 h1).1
  have hw0 : w0.heap.size ≤ b0 := by have := hw.size; omega
  obtain ⟨a1, n1, c1, rfl⟩ := own_slice hbo
  obtain ⟨a2, n2, c2, rfl⟩ := own_slice hko
  obtain ⟨a3, c3, rfl, -, -⟩ := hdo.hold.slice
  have hdl3 := hdl
  obtain ⟨cs0, -, hlo, -⟩ := id h3
  obtain ⟨la1, ln1, lc1, rfl⟩ := own_slice6 hlo
  have hfl : (done.flatten ++ cur).length ≤ 1099511627776 := by
   have := flat_bound (n := 8388608) hdl
   have h5 : 8388608 * done.length ≤ 8388608 * 255 := Nat.mul_le_mul_left _ (by omega)
   rw [List.length_append]; omega
  have hkb : ∀ z ∈ keyL row kz, 0 ≤ z ∧ z ≤ 255 := fun z hz => by
   unfold keyL at hz
   split at hz
   ·exact hT.k.1 z hz
   ·cases hz
  have hok := hT.okD (row := row) (at_ := i) hr (by omega)
  have hcz : CallAt w0 w0.heap.size w (t.callS kz z1 z2 row i la rt d) [.int .i64 t.k, .slice a1 n1 c1, .slice a2 n2 c2, .bool la, .int .i64 (t.outN rt), .slice a3 d.length c3] :=
   ⟨_, _, _, _, _, _, _, _, _, rfl, ⟨hok.2.2.1, fresh_of_own hbo⟩, .inl ⟨hkb, fresh_of_own hko⟩, .inl hdo⟩
  have hbA : Below b0 w (w.alloc (.cells #[.int .i64 t.k, .slice a1 n1 c1, .slice a2 n2 c2, .bool la, .int .i64 (t.outN rt), .slice a3 d.length c3] 25)) := by rw [← hb0]; exact (Below.refl _ _).alloc (Nat.le_refl _) _
  have hrA := World.alloc_heap_new w (.cells #[.int .i64 t.k, .slice a1 n1 c1, .slice a2 n2 c2, .bool la, .int .i64 (t.outN rt), .slice a3 d.length c3] 25)
  rw [hb0] at hrA
  have hbAx := hb0 ▸ hbA
  have HOK := hid hT
  have HCA := hid (hcz.kb (Nat.le_refl _) (KB.of_below hbAx (by omega)))
  have HLO := hid (h3.below (by omega) hbAx)
  have HBL := hid ((hbA.block bl (by omega)).trans h1)
  have HBO := hid (ownsRow_same' hbo (fun g _ g2 => hbAx.block g g2))
  have HKO := hid (ownsRow_same' hko (fun g _ g2 => hbAx.block g g2))
  have HDO := hid (hdo.kb (KB.of_below hbAx (Nat.zero_le _)))
  have H4 := hid h4
  have HLT := hid hlt
  have HBA := hid hbA
  have HD := hid hd
  have HR := hid hrow
  clear h1 h3 h4 hlt hbo hko hdo hdl hdl3 hok hcz hbA hbAx hd hw hlo hT hrow
  unfold callC
  go_enter Tryz.func33, Tryz.ntmps33
  go_upto_region 1 with (fail)
  generalize w.alloc (.cells #[.int .i64 t.k, .slice a1 n1 c1, .slice a2 n2 c2, .bool la, .int .i64 (t.outN rt), .slice a3 d.length c3] 25) = wA at *
  have c0 : wA.cell? ⟨bl, 0, none⟩ = some (.slice la1 ln1 lc1) := cell_of_heap HBL.out 0
  have hsA : b0 < wA.heap.size := (Array.getElem?_eq_some_iff.1 hrA).1
  have hblA : bl < wA.heap.size := by omega
  have f0 := frozen_of_row wA bl 0 _ _ HBL.out
  have hw0A : w0.heap.size ≤ wA.heap.size := by omega
  have hne : (Value.slice la1 ln1 lc1).ownBlock ≠ some bl := fun e => by
   obtain ⟨cs1, -, ho, -⟩ := HLO.out
   rcases ho.2 with ⟨e1, -⟩ | ⟨g, cap, cur, e1, -, h5, -⟩
   ·rw [e1] at e; cases e
   ·rw [e1] at e
    simp only [Value.ownBlock, Option.some.injEq] at e
    subst e
    rw [HBL.out] at h5
    simp only [Option.some.injEq, Obj.cells.injEq] at h5
    exact absurd h5.2.1 (by decide)
  go_upto_region 2 with (first | ((with_reducible show wpList _ _ _ (Oper.mk _ (Op.load 25 _) _ _ _ _ :: _) _ _); refine wpList_load_row rfl 25 _ rfl b0 rfl _ _ _ _ hrA Tryz.underlying25 rfl (by kernel_rfl) ?_) | ((with_reducible show wpList _ _ _ (Oper.mk _ (Op.buildSlice _ _ _) _ _ _ _ :: _) _ _); refine wpList_buildC rfl _ rfl _ _ _ _ _ _ rfl ?_) | (at_builtin; refine wpList_pushC (w0 := w0) rfl _ _ rfl w0.heap.size (.slice la1 ln1 lc1) (done.flatten ++ cur) _ [.int .i64 t.k, .slice a1 n1 c1, .slice a2 n2 c2, .bool la, .int .i64 (t.outN rt), .slice a3 d.length c3] rfl HLO.out HCA.out rfl (by simp [Value.oneCell']) rfl (by omega) (Nat.le_refl _) (by omega) _ ?_; intro v' w' hlo' hkb' hsp' hat'; have hbl' := (hsp'.block bl (by omega) hne).trans HBL.out; obtain ⟨cs1, -, hcr1, -⟩ := id hlo'; obtain ⟨av, nv, cv, rfl⟩ := own_slice6 hcr1; have c0' : w'.cell? ⟨bl, 0, none⟩ = some (.slice la1 ln1 lc1) := cell_of_heap hbl' 0; have f0' := frozen_of_row w' bl 0 _ _ hbl'; have s0' : bl < w'.heap.size := (Array.getElem?_eq_some_iff.1 hbl').1))
  refine letterW ?_
  intro X hX
  have hle6 := hkb'.size
  have hlvb : ∀ g, (Value.slice la1 ln1 lc1).ownBlock = some g → g < b0 := fun g hg => by
   obtain ⟨cs1, -, ho, -⟩ := HLO.out
   have h5 := (H4.out g).2 (.inr hg)
   have := (HLT.out g h5).2
   omega
  have hkX : KB w0.heap.size w' X := by rw [hX]; exact KB.of_but ((But.refl bl _).set 0 _) (by omega) h2 hbl' (by decide)
  have hXB : X.heap[bl]? = some (.cells #[.slice av nv cv] 35 (0, 0)) := by rw [hX]; exact heap_setCell_same _ bl 0 _ _ _ hbl'
  have hXL : CallsO w0 w0.heap.size X (.slice av nv cv) (done.flatten ++ cur ++ [t.callS kz z1 z2 row i la rt d]) := by
   refine hlo'.kb (Nat.le_refl _) hkX (fun g hg => ?_)
   rw [hX]
   refine heap_setCell_other _ _ _ _ (fun e => ?_)
   rw [show g = bl from e] at hg
   rcases hcr1.2 with ⟨e1, -⟩ | ⟨g2, cap, cur2, e1, -, h5, -⟩
   ·rw [e1] at hg; cases hg
   ·rw [e1] at hg
    simp only [Value.ownBlock, Option.some.injEq] at hg
    subst hg
    rw [hbl'] at h5
    simp only [Option.some.injEq, Obj.cells.injEq] at h5
    exact absurd h5.2.1 (by decide)
  have hrX : X.heap[b0]? = some (.cells #[.int .i64 t.k, .slice a1 n1 c1, .slice a2 n2 c2, .bool la, .int .i64 (t.outN rt), .slice a3 d.length c3] 25 (0, 0)) := by
   rw [hX]
   refine (heap_setCell_other _ _ _ _ (show b0 ≠ bl by omega)).trans ((hsp'.block b0 hsA (fun e => ?_)).trans hrA)
   have := hlvb b0 e
   omega
  have hkAX := hkb'.trans hkX
  have HBX := hid (own_kb HBO.out hkAX)
  have HKX := hid (own_kb HKO.out hkAX)
  have HDX := hid (HDO.out.kb hkAX)
  have hspX : Spare (fun k => ¬ F k) w X := by
   refine (Spare.of_below (fun k => ¬ F k) (hb0 ▸ HBA.out)).trans (T := fun k => k ≠ bl ∧ (Value.slice la1 ln1 lc1).ownBlock ≠ some k) ?_ (fun k _ hk => ⟨fun e => hk ((H4.out k).2 (.inl e)), fun e => hk ((H4.out k).2 (.inr e))⟩)
   rw [hX]
   refine ⟨hsp'.os, hsp'.tape, hsp'.output, by simp [World.setCell]; omega, fun k hk hs => ?_⟩
   exact (heap_setCell_other _ _ _ _ hs.1).trans (hsp'.block k hk hs.2)
  have hbyX : ∀ (k : Nat) (c : Array Value), w.heap[k]? = some (.cells c 5 (0, 0)) → X.heap[k]? = some (.cells c 5 (0, 0)) := fun k c h => hkAX.bytes k c ((KB.of_below (hb0 ▸ HBA.out) (Nat.zero_le _)).bytes k c h)
  have hsX : b0 ≤ X.heap.size := by have := hkAX.size; omega
  have HXB := hid hXB
  have HXL := hid hXL
  have HSPX := hid hspX
  have HBYX := hid hbyX
  have HLV' := hid (show ∀ g, (Value.slice av nv cv).ownBlock = some g → F g ∨ b0 ≤ g from fun g hg => by
   rcases hat' with h | h
   ·rw [h] at hg; exact .inl ((H4.out g).2 (.inr hg))
   ·exact .inr (by have := h g hg; omega))
  clear hX hle6 hlvb hkX hXB hXL hkAX hspX hbyX hlo' hkb' hsp' hat' hcr1 hbl' c0' f0' s0' c0 f0 hne hrA HBL HLO HCA HBO HKO HDO
  go_wp2_with ((with_reducible show wpList _ _ _ (Oper.mk _ (Op.load 25 _) _ _ _ _ :: _) _ _); refine wpList_load_row rfl 25 _ rfl b0 rfl _ _ _ _ hrX Tryz.underlying25 rfl (by kernel_rfl) ?_)
  refine (node_ok HOK.out (row := row) (at_ := i) hr (by omega) la rt d (.slice a3 d.length c3) (.slice a1 n1 c1) (.slice a2 n2 c2) X _ HBX.out HKX.out HDX.out.hold HD.out).mono ?_; rintro e w9 ⟨u, rfl, hu, hb9⟩
  have HU := hid (hu.le hsX)
  have HB9 := hid hb9
  clear hu hb9 hrX
  go_wp2
  go_ret
  have hk9 := KB.of_below HB9.out (Nat.zero_le _)
  refine ⟨_, fun k => k = bl ∨ (Value.slice av nv cv).ownBlock = some k, rfl, by rw [hb0]; exact HU.out, ?_, ⟨_, rowStay HXB.out HB9.out, h2, ?_, fun k => Iff.rfl⟩, ⟨HSPX.out.trans (Spare.of_below _ HB9.out) (fun _ _ h => h), fun k c h => hk9.bytes k c (HBYX.out k c h)⟩⟩
  ·rintro k (rfl | hk)
   ·exact .inl ((H4.out _).2 (.inl rfl))
   ·rcases HLV'.out k hk with h | h
    ·exact .inl h
    ·exact .inr (by omega)
  ·rw [← List.append_assoc]
   exact HXL.out.below (by omega) HB9.out
theorem calls_err (t : TreeV) (v : Value) (w : World) (h : t.validE ≠ 0) :
  Calls Tryz.prog 11 #[t.val, v] w fun e w' => e = .returned (.tuple #[.slice none 0 0, .int .i64 t.validE]) ∧ Below w.heap.size w w' := by
 obtain ⟨b0, hb0⟩ : ∃ b0, w.heap.size = b0 := ⟨_, rfl⟩
 have HVL := hid (valid_any t)
 have hbA : Below b0 w (w.alloc (.cells #[.int .i64 t.k, .int .i64 t.d, .int .i64 t.f, .int .i64 t.p, .int .u32 t.l, .int .i64 t.i, .slice t.ka t.kl t.kc, .slice t.sa t.sl t.sc, .slice t.pa t.pl t.pc] 34)) := by rw [← hb0]; exact (Below.refl _ _).alloc (Nat.le_refl _) _
 have hrA := World.alloc_heap_new w (.cells #[.int .i64 t.k, .int .i64 t.d, .int .i64 t.f, .int .i64 t.p, .int .u32 t.l, .int .i64 t.i, .slice t.ka t.kl t.kc, .slice t.sa t.sl t.sc, .slice t.pa t.pl t.pc] 34)
 rw [hb0] at hrA
 generalize t.validE = ev at *
 have hq : (ev != 0) = true := by rw [bne_iff_ne]; exact h
 clear h
 unfold TreeV.val at *
 go_enter Tryz.func11, Tryz.ntmps11
 go_upto_region 1 with (fail)
 generalize w.alloc (.cells #[.int .i64 t.k, .int .i64 t.d, .int .i64 t.f, .int .i64 t.p, .int .u32 t.l, .int .i64 t.i, .slice t.ka t.kl t.kc, .slice t.sa t.sl t.sc, .slice t.pa t.pl t.pc] 34) = wA at *
 go_wp2_with ((with_reducible show wpList _ _ _ (Oper.mk _ (Op.load 34 _) _ _ _ _ :: _) _ _); refine wpList_load_row rfl 34 _ rfl b0 rfl _ _ _ _ hrA Tryz.underlying34 rfl (by kernel_rfl) ?_)
 refine (HVL.out wA).mono ?_; rintro e w2 ⟨rfl, hb2⟩
 have HB2 := hid (hbA.trans (hb2.mono (by have := (Array.getElem?_eq_some_iff.1 hrA).1; omega)))
 clear hrA hbA hb2
 go_wp2
 go_ret2
 exact ⟨rfl, by rw [hb0]; exact HB2.out⟩
theorem enter_calls (args : Array Value) (W : World) : (callFunc 33 args).run Tryz.prog W = .ok (.enter 33 args) W := by
 simp [callFunc, Tryz.func33, Tryz.f33]
theorem calls_ok (t : TreeV) (kz z1 z2 zs : List Int) (v : Value) (w : World) (h : TreeOk t kz z1 z2 w) (hv : Hold w v zs) (hn : zs.length ≤ 4194304) :
  Calls Tryz.prog 11 #[t.val, v] w fun e w' => ∃ u, e = .returned (.tuple #[u, .int .i64 0]) ∧ (∃ R, t.topAt kz z1 z2 (t.leafZ kz z1 z2 zs) R ∧ CallsO w w.heap.size w' u ((t.allC kz z1 z2 zs R).flatten ++ t.callsR kz z1 z2 zs R)) ∧ Below w.heap.size w w' := by
 obtain ⟨b0, hb0⟩ : ∃ b0, w.heap.size = b0 := ⟨_, rfl⟩
 have hvl := valid_any t
 simp only [h.v] at hvl
 have HVL := hid hvl
 have HT := hid h
 have HCU := hid (fun (W : World) (hb : Below b0 w W) => cut_ok t h.v h.l zs v W (hv.below (hb0 ▸ hb)) (by omega))
 have HRO := hid (fun (bl : Nat) (W : World) (x : Value) (F0 : Nat → Prop) (hw : Below w.heap.size w W) (hI : AccC w bl [] [] F0 W) (hx : ListO w.heap.size W x (cutZ t.ln zs)) (hxF : ∀ g, x.ownBlock = some g → ¬ F0 g) => rows_see (seer_calls h bl) h hn x W F0 hw hI hx hxF enter_calls)
 obtain ⟨va, vc, rfl, -, -⟩ := hv.slice
 have hbA : Below b0 w (w.alloc (.cells #[.int .i64 t.k, .int .i64 t.d, .int .i64 t.f, .int .i64 t.p, .int .u32 t.l, .int .i64 t.i, .slice t.ka t.kl t.kc, .slice t.sa t.sl t.sc, .slice t.pa t.pl t.pc] 34)) := by rw [← hb0]; exact (Below.refl _ _).alloc (Nat.le_refl _) _
 have hrA := World.alloc_heap_new w (.cells #[.int .i64 t.k, .int .i64 t.d, .int .i64 t.f, .int .i64 t.p, .int .u32 t.l, .int .i64 t.i, .slice t.ka t.kl t.kc, .slice t.sa t.sl t.sc, .slice t.pa t.pl t.pc] 34)
 rw [hb0] at hrA
 generalize hCZ : cutZ t.ln zs = CZ at *
 clear h hv hvl hCZ
 unfold TreeV.val at *
 go_enter Tryz.func11, Tryz.ntmps11
 go_upto_region 1 with (fail)
 generalize w.alloc (.cells #[.int .i64 t.k, .int .i64 t.d, .int .i64 t.f, .int .i64 t.p, .int .u32 t.l, .int .i64 t.i, .slice t.ka t.kl t.kc, .slice t.sa t.sl t.sc, .slice t.pa t.pl t.pc] 34) = wA at *
 go_wp2_with ((with_reducible show wpList _ _ _ (Oper.mk _ (Op.load 34 _) _ _ _ _ :: _) _ _); refine wpList_load_row rfl 34 _ rfl b0 rfl _ _ _ _ hrA Tryz.underlying34 rfl (by kernel_rfl) ?_)
 refine (HVL.out wA).mono ?_; rintro e w2 ⟨rfl, hb2⟩
 have hr2 := rowStay hrA hb2
 have hB2 := hbA.trans (hb2.mono (by have := (Array.getElem?_eq_some_iff.1 hrA).1; omega))
 have HB2 := hid hB2
 have hs2 : b0 < w2.heap.size := (Array.getElem?_eq_some_iff.1 hr2).1
 clear hrA hbA hb2 hB2
 go_upto_region 5 with (fail)
 refine letterW ?_
 intro V hV
 obtain ⟨bl, hbl⟩ : ∃ bl, w2.heap.size = bl := ⟨_, rfl⟩
 have hrB : V.heap[bl]? = some (.cells #[.slice none 0 0] 35 (0, 0)) := by rw [hV, ← hbl]; exact World.alloc_heap_new _ _
 have hbV : Below bl w2 V := by rw [hV, ← hbl]; exact (Below.refl _ _).alloc (Nat.le_refl _) _
 have hrV : V.heap[b0]? = some (.cells #[.int .i64 t.k, .int .i64 t.d, .int .i64 t.f, .int .i64 t.p, .int .u32 t.l, .int .i64 t.i, .slice t.ka t.kl t.kc, .slice t.sa t.sl t.sc, .slice t.pa t.pl t.pc] 34 (0, 0)) := (hbV.block b0 (by omega)).trans hr2
 have HBV := hid (HB2.out.trans (hbV.mono (show b0 ≤ bl by omega)))
 have hsV : bl < V.heap.size := (Array.getElem?_eq_some_iff.1 hrB).1
 have hacc : AccC w bl [] [] (fun k => k = bl) V := ⟨.slice none 0 0, hrB, by omega, CallsO.nil _ _ _, fun k => ⟨fun h => .inl h, fun h => by
  rcases h with h | h
  ·exact h
  ·cases h⟩⟩
 have HACC := hid hacc
 rw [hbl]
 have hb0l : b0 < bl := by omega
 clear hV hbV hr2 hbl hrB hacc
 refine wp_region_c (n := 5) (w0 := V) (B := V.heap.size) [.v 13 (.agg #[.int .i64 t.k, .int .i64 t.d, .int .i64 t.f, .int .i64 t.p, .int .u32 t.l, .int .i64 t.i, .slice t.ka t.kl t.kc, .slice t.sa t.sl t.sc, .slice t.pa t.pl t.pc]), .v 14 (.agg #[.int .i64 t.k, .int .i64 t.d, .int .i64 t.f, .int .i64 t.p, .int .u32 t.l, .int .i64 t.i, .slice t.ka t.kl t.kc, .slice t.sa t.sl t.sc, .slice t.pa t.pl t.pc]), .v 15 (.slice va zs.length vc), .p 16 (fun u W => ListO V.heap.size W u CZ), .v 17 (.func (.func 33) #[] #[.pointer (some ⟨bl, 0, none⟩)])] (by exact ⟨(fun _ _ _ h hb => ListO.below h hb), trivial⟩) (Below.refl _ _).drew (Nat.le_refl _) ?_ ?_
 ·repeat' (with_reducible first | exact eachO_nil | refine eachO_cons ?_ ?_)
  ·intro AA x W hA hW hBW hdep D K hK
   have a2 := hA.2 2 (by decide)
   conv at a2 => rhs; whnf
   clear hdep hA
   exact wp_load_row 34 _ rfl b0 a2 _ _ _ _ (rowStay hrV hW) Tryz.underlying34 rfl (by kernel_rfl) (hK _ _ (Below.refl _ _) rfl)
  ·intro AA x W hA hW hBW hdep D K hK
   have a2 := hA.2 2 (by decide)
   conv at a2 => rhs; whnf
   clear hdep hA
   exact wp_load_row 34 _ rfl b0 a2 _ _ _ _ (rowStay hrV hW) Tryz.underlying34 rfl (by kernel_rfl) (hK _ _ (Below.refl _ _) rfl)
  ·intro AA x W hA hW hBW hdep D K hK
   have a1 := hA.2 1 (by decide)
   conv at a1 => rhs; whnf
   clear hdep hA
   go_simp
   exact hK _ _ (Below.refl _ _) rfl
  ·intro AA x W hA hW hBW hdep _ K hK
   have g14 := gv hA hdep 1 14
   have g15 := gv hA hdep 2 15
   clear hdep hA
   go_simp
   refine (HCU.out W (HBV.out.trans (hW.mono (by omega)))).mono ?_; rintro e w5 ⟨u, rfl, ho, hb5⟩
   exact hK _ _ hb5 (ho.le hBW)
  ·intro AA x W hA hW hBW hdep D K hK
   have a7 := hA.2 7 (by decide)
   conv at a7 => rhs; whnf
   clear hdep hA
   go_simp
   exact hK _ _ (Below.refl _ _) rfl
 intro x W hW hBW hall
 obtain ⟨e16, -⟩ := hall
 change (fun u W => ListO V.heap.size W u CZ) (x 16) W at e16
 refine thenTail_cons ?_
 simp only [layS, Act.put, List.setIfInBounds_toArray, List.set_cons_zero, List.set_cons_succ]
 generalize x 16 = X at *
 have hxF : ∀ g, X.ownBlock = some g → ¬ g = bl := fun g hg e => by
  obtain ⟨vs, ho, -⟩ := e16
  rcases ho.2 with ⟨rfl, -⟩ | ⟨g2, cap, cur, rfl, h5, -⟩
  ·cases hg
  ·simp only [Value.ownBlock, Option.some.injEq] at hg; omega
 have hbW := HBV.out.trans (hW.mono (show b0 ≤ V.heap.size by omega))
 have hk := KB.of_below hW (Nat.zero_le _)
 have hacW := (seer_calls HT.out bl).keep HACC.out (hW.mono (show w.heap.size ≤ V.heap.size by omega)) (fun k hk => hW.block k (by rw [show k = bl from hk]; exact hsV)) hk.bytes
 have HR := hid (HRO.out bl W X (fun k => k = bl) (by rw [hb0]; exact hbW) hacW (by rw [hb0]; exact e16.le (by omega)) hxF)
 have HBW := hid hbW
 have hblW : bl < W.heap.size := by have := hW.size; omega
 clear e16 hxF hbW hk hacW HRO HACC hrV
 go_wp2_with fail
 refine HR.out.mono ?_; rintro e w6 ⟨rfl, ⟨R, F', hR, hI, -⟩, hb6, -⟩
 go_wp2_with fail
 refine thenTail_nil ?_
 obtain ⟨lv, l1, l2, l3, -⟩ := hI
 obtain ⟨cs0, -, hlo, -⟩ := id l3
 obtain ⟨la1, ln1, lc1, rfl⟩ := own_slice6 hlo
 have c0 : w6.cell? ⟨bl, 0, none⟩ = some (.slice la1 ln1 lc1) := cell_of_heap l1 0
 have s0 : bl < w6.heap.size := (Array.getElem?_eq_some_iff.1 l1).1
 have HL3 := hid l3
 have HB6 := hid hb6
 have HTOP := hid hR
 clear l1 l3 hb6 hR hlo
 go_wp2
 go_ret2
 exact ⟨_, rfl, ⟨R, HTOP.out, HL3.out⟩, (show Below w.heap.size w W by rw [hb0]; exact HBW.out).trans HB6.out⟩
end Go.Proofs.YtjogmckaakkomaaGreat
