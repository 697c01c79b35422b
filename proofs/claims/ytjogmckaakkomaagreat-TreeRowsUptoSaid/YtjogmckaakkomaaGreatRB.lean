/- All nodes' outputs, by both sides; the leaves' outputs. No condition. -/
import Derived.Test.YtjogmckaakkomaaGreatRA
import Derived.Test.YtjogmckaakkomaaGreatB47
import Derived.ArgAppend
import Derived.Test.YtjogmckaakkomaaGreatB48
import Derived.Deep.CondSized
import Derived.JoinedCond
set_option linter.all false
set_option maxRecDepth 100000
set_option maxHeartbeats 8000000
namespace Go.Proofs.YtjogmckaakkomaaGreat
open Go.ChangeShapes Go.WideShapes Go.ChangeAt Go.RowKit Go.Joins Go.Shelf Go.Maps
open Go.Lib (hid)
attribute [local go_sem] Oper.semAt_some
theorem CallAt.cells {w0 w : World} {B : Nat} {s : CallS} {c : List Value} (h : CallAt w0 B w s c) : ∃ bv kv dv, c = [.int .i64 s.k, bv, kv, .bool s.la, .int .i64 s.o, dv] ∧ Hold w bv s.bs ∧ Hold w kv s.kz ∧ Hold w dv s.ds := by
 obtain ⟨a1, n1, c1, a2, n2, c2, a3, n3, c3, rfl, h1, h2, h3⟩ := h
 exact ⟨_, _, _, rfl, h1.hold, h2.hold, h3.hold⟩
theorem flat_at {α : Type} {n : Nat} : ∀ {cs : List (List α)}, (∀ c ∈ cs, c.length = n) → ∀ {i j : Nat}, i < cs.length → j < n → cs.flatten[i * n + j]? = (cs.getD i [])[j]?
 | [], _, i, j, hi, _ => by simp at hi
 | c :: cs, h, i, j, hi, hj => by
  have hc := h c (List.mem_cons_self ..)
  cases i with
  | zero =>
   rw [List.flatten_cons, List.getElem?_append_left (by omega), Nat.zero_mul, Nat.zero_add]
   rfl
  | succ i =>
   have e : (i + 1) * n + j - c.length = i * n + j := by rw [hc, Nat.add_mul]; omega
   rw [List.flatten_cons, List.getElem?_append_right (by rw [hc, Nat.add_mul]; omega), e]
   exact flat_at (fun c hc => h c (List.mem_cons_of_mem _ hc)) (by simpa using hi) hj
theorem CallsO.form {w0 w : World} {B : Nat} {v : Value} {S : List CallS} (h : CallsO w0 B w v S) : ∃ a c, v = .slice a S.length c := by
 obtain ⟨cs, -, ho, -⟩ := h
 rcases ho.2 with ⟨rfl, e⟩ | ⟨g, cap, cur, rfl, -⟩
 ·exact ⟨none, 0, by rw [e]⟩
 ·exact ⟨_, _, rfl⟩
theorem CallsO.get {w0 w : World} {B i : Nat} {v : Value} {S : List CallS} {s : CallS} (h : CallsO w0 B w v S) (hi : i < S.length) (hs : S.getD i .zero = s) :
  ∃ g cap cur bv kv dv, v = .slice (some ⟨g, 0, none⟩) S.length cap ∧ B ≤ g ∧ w.heap[g]? = some (.cells cur 25 (0, 0)) ∧ (∀ j, j < 6 → cur[i * 6 + j]? = (#[.int .i64 s.k, bv, kv, .bool s.la, .int .i64 s.o, dv] : Array Value)[j]?) ∧ Hold w bv s.bs ∧ Hold w kv s.kz ∧ Hold w dv s.ds := by
 obtain ⟨cs, hl, ho, hx⟩ := h
 rcases ho.2 with ⟨-, e⟩ | ⟨g, cap, cur, rfl, h1, h2, h3, h4, h5, h6⟩
 ·omega
 obtain ⟨bv, kv, dv, e, k1, k2, k3⟩ := (hx i hi).cells
 rw [hs] at e k1 k2 k3
 refine ⟨g, cap, cur, bv, kv, dv, rfl, h1, h2, fun j hj => ?_, k1, k2, k3⟩
 have h7 := flat_at (n := 6) (cs := cs) (fun c hc => by
  obtain ⟨q, hq, rfl⟩ := List.mem_iff_getElem.1 hc
  obtain ⟨_, _, _, e, -⟩ := (hx q (by omega)).cells
  rw [List.getD_eq_getElem?_getD (l := cs), List.getElem?_eq_getElem hq] at e
  rw [show cs[q] = _ from e]
  rfl) (i := i) (j := j) (by omega) hj
 rw [e, ← h6, List.getElem?_take] at h7
 rw [if_pos (by omega)] at h7
 rw [← Array.getElem?_toList, h7, ← Array.getElem?_toList]
theorem TreeV.allC_at (t : TreeV) (kz z1 z2 zs : List Int) {m i : Nat} (h : i < m) : (t.allC kz z1 z2 zs m).getD i [] = t.callsR kz z1 z2 zs i := by simp [TreeV.allC, List.getD_eq_getElem?_getD, h]
theorem TreeV.callsR_len {t : TreeV} (h : t.validE = 0) (hl : 0 ≤ t.l ∧ t.l ≤ 4294967295) (kz z1 z2 zs : List Int) (r : Nat) : 1 ≤ (t.callsR kz z1 z2 zs r).length ∧ (t.callsR kz z1 z2 zs r).length ≤ zs.length + 1 := by
 have := TreeV.dataR_facts h hl kz z1 z2 zs r
 unfold TreeV.callsR
 rw [TreeV.rowC_length]
 exact ⟨this.1, this.2.1⟩
theorem TreeV.callsR_sw (t : TreeV) (a1 : Option Addr) (c1 : Nat) (a2 : Option Addr) (c2 : Nat) (a3 : Option Addr) (c3 : Nat) (kz z1 z2 zs : List Int) : ∀ r, (t.sw a1 c1 a2 c2 a3 c3).callsR kz z1 z2 zs r = t.callsR kz z1 z2 zs r
 | 0 => rfl
 | r + 1 => by
  show TreeV.rowC _ _ _ _ _ (TreeV.rootZ _ _ (TreeV.lvlZ _ _ _ _ _ r).length) (TreeV.upZ _ _ (TreeV.lvlZ _ _ _ _ _ r)) (TreeV.upZ _ _ (TreeV.lvlZ _ _ _ _ _ r)).length = _
  rw [TreeV.lvlZ_sw]
  rfl
theorem RowsV.nil (B : Nat) (w : World) : RowsV B w (.slice none 0 0) [] [] := ⟨World.ownsRow_nil _ _ _ _, fun i hi => by simp at hi, fun i j g _ hj => by simp at hj⟩
theorem RowsV.le {B b : Nat} {w : World} {lv : Value} {vs : List Value} {LL : List (List (List Int))} (h : RowsV B w lv vs LL) (hb : b ≤ B) : RowsV b w lv vs LL := ⟨ownsRow_le h.1 hb, fun i hi => (h.2.1 i hi).le hb, h.2.2⟩
theorem RowsV.below {B : Nat} {w w' : World} {lv : Value} {vs : List Value} {LL : List (List (List Int))} (h : RowsV B w lv vs LL) (hb : Below w.heap.size w w') : RowsV B w' lv vs LL :=
 h.tend (KB.of_below hb (Nat.zero_le _)).bytes (fun g hg => hb.block g (own_block_lt h.1 g hg)) (fun i g hi hg => hb.block g (by obtain ⟨xs, hx⟩ := (h.2.1 i hi).row; exact own_block_lt hx g hg))
theorem RowsV.push {B : Nat} {w w' : World} {lv lv' x : Value} {vs : List Value} {LL : List (List (List Int))} {L : List (List Int)} (h : RowsV B w lv vs LL) (hx : ListO B w x L) (hap : ∀ i g, i < LL.length → (vs.getD i undef).ownBlock = some g → x.ownBlock ≠ some g) (ho : w'.ownsRow B 54 1 lv' (LL.length + 1) (vs ++ [x])) (hk : KB B w w') (hsp : Spare (fun k => lv.ownBlock ≠ some k) w w') : RowsV B w' lv' (vs ++ [x]) (LL ++ [L]) := by
 have hl := h.len
 refine ⟨by simpa using ho, fun i hi => ?_, fun i j g hij hj hg => ?_⟩
 ·simp only [List.length_append, List.length_singleton] at hi
  rw [getD_snoc, getD_snoc, hl]
  by_cases h3 : i < LL.length
  ·rw [if_pos h3, if_pos h3]
   obtain ⟨xs, hxs⟩ := (h.2.1 i h3).row
   exact (h.2.1 i h3).kb hk (own_spare h.1 hxs (by decide) hsp)
  ·rw [if_neg h3, if_neg h3, if_pos (by omega), if_pos (by omega)]
   obtain ⟨xs, hxs⟩ := hx.row
   exact hx.kb hk (own_spare h.1 hxs (by decide) hsp)
 ·simp only [List.length_append, List.length_singleton] at hj
  rw [getD_snoc, hl] at hg ⊢
  by_cases h3 : j < LL.length
  ·rw [if_pos (by omega)] at hg
   rw [if_pos h3]
   exact h.2.2 i j g hij h3 hg
  ·rw [if_pos (by omega)] at hg
   rw [if_neg h3, if_pos (by omega)]
   exact hap i g (by omega) hg
theorem rows_err (t : TreeV) (v : Value) (w : World) (h : t.validE ≠ 0) :
  Calls Tryz.prog 23 #[t.val, v] w fun e w' => e = .returned (.tuple #[.slice none 0 0, .int .i64 t.validE]) ∧ Below w.heap.size w w' := by
 obtain ⟨b0, hb0⟩ : ∃ b0, w.heap.size = b0 := ⟨_, rfl⟩
 have HVL := hid (valid_any t)
 have hbA : Below b0 w (w.alloc (.cells #[.int .i64 t.k, .int .i64 t.d, .int .i64 t.f, .int .i64 t.p, .int .u32 t.l, .int .i64 t.i, .slice t.ka t.kl t.kc, .slice t.sa t.sl t.sc, .slice t.pa t.pl t.pc] 34)) := by rw [← hb0]; exact (Below.refl _ _).alloc (Nat.le_refl _) _
 have hrA := World.alloc_heap_new w (.cells #[.int .i64 t.k, .int .i64 t.d, .int .i64 t.f, .int .i64 t.p, .int .u32 t.l, .int .i64 t.i, .slice t.ka t.kl t.kc, .slice t.sa t.sl t.sc, .slice t.pa t.pl t.pc] 34)
 rw [hb0] at hrA
 generalize t.validE = ev at *
 have hq : (ev != 0) = true := by rw [bne_iff_ne]; exact h
 clear h
 unfold TreeV.val at *
 go_enter Tryz.func23, Tryz.ntmps23
 go_upto_region 1 with (fail)
 generalize w.alloc (.cells #[.int .i64 t.k, .int .i64 t.d, .int .i64 t.f, .int .i64 t.p, .int .u32 t.l, .int .i64 t.i, .slice t.ka t.kl t.kc, .slice t.sa t.sl t.sc, .slice t.pa t.pl t.pc] 34) = wA at *
 go_wp2_with ((with_reducible show wpList _ _ _ (Oper.mk _ (Op.load 34 _) _ _ _ _ :: _) _ _); refine wpList_load_row rfl 34 _ rfl b0 rfl _ _ _ _ hrA Tryz.underlying34 rfl (by kernel_rfl) ?_)
 refine (HVL.out wA).mono ?_; rintro e w2 ⟨rfl, hb2⟩
 have HB2 := hid (hbA.trans (hb2.mono (by have := (Array.getElem?_eq_some_iff.1 hrA).1; omega)))
 clear hrA hbA hb2
 go_wp2
 go_ret2
 exact ⟨rfl, by rw [hb0]; exact HB2.out⟩
theorem rows10_err (t : TreeV) (v : Value) (w : World) (h : t.validE ≠ 0) :
  Calls Tryz.prog 22 #[t.val, v] w fun e w' => e = .returned (.tuple #[.slice none 0 0, .int .i64 t.validE]) ∧ Below w.heap.size w w' := by
 obtain ⟨b0, hb0⟩ : ∃ b0, w.heap.size = b0 := ⟨_, rfl⟩
 have HVL := hid (fun W => levels_err t v W h)
 have hbA : Below b0 w (w.alloc (.cells #[.int .i64 t.k, .int .i64 t.d, .int .i64 t.f, .int .i64 t.p, .int .u32 t.l, .int .i64 t.i, .slice t.ka t.kl t.kc, .slice t.sa t.sl t.sc, .slice t.pa t.pl t.pc] 34)) := by rw [← hb0]; exact (Below.refl _ _).alloc (Nat.le_refl _) _
 have hrA := World.alloc_heap_new w (.cells #[.int .i64 t.k, .int .i64 t.d, .int .i64 t.f, .int .i64 t.p, .int .u32 t.l, .int .i64 t.i, .slice t.ka t.kl t.kc, .slice t.sa t.sl t.sc, .slice t.pa t.pl t.pc] 34)
 rw [hb0] at hrA
 generalize t.validE = ev at *
 have hq : (ev != 0) = true := by rw [bne_iff_ne]; exact h
 clear h
 unfold TreeV.val at *
 go_enter Tryz.func22, Tryz.ntmps22
 go_upto_region 1 with (fail)
 generalize w.alloc (.cells #[.int .i64 t.k, .int .i64 t.d, .int .i64 t.f, .int .i64 t.p, .int .u32 t.l, .int .i64 t.i, .slice t.ka t.kl t.kc, .slice t.sa t.sl t.sc, .slice t.pa t.pl t.pc] 34) = wA at *
 go_wp2_with ((with_reducible show wpList _ _ _ (Oper.mk _ (Op.load 34 _) _ _ _ _ :: _) _ _); refine wpList_load_row rfl 34 _ rfl b0 rfl _ _ _ _ hrA Tryz.underlying34 rfl (by kernel_rfl) ?_)
 refine (HVL.out wA).mono ?_; rintro e w2 ⟨rfl, hb2⟩
 have HB2 := hid (hbA.trans (hb2.mono (by have := (Array.getElem?_eq_some_iff.1 hrA).1; omega)))
 clear hrA hbA hb2
 go_wp2
 go_ret2
 exact ⟨rfl, by rw [hb0]; exact HB2.out⟩
theorem rowsT_ok (t : TreeV) (kz z1 z2 zs : List Int) (v : Value) (w : World) (h : TreeOk t kz z1 z2 w) (hv : Hold w v zs) (hn : zs.length ≤ 4194304) :
  Calls Tryz.prog 23 #[t.val, v] w fun e w' => ∃ u, e = .returned (.tuple #[u, .int .i64 0]) ∧ (∃ R, t.topAt kz z1 z2 (t.leafZ kz z1 z2 zs) R ∧ ∃ vs, RowsV w.heap.size w' u vs (t.accL (t.allC kz z1 z2 zs R) (t.callsR kz z1 z2 zs R))) ∧ Below w.heap.size w w' := by
 obtain ⟨b0, hb0⟩ : ∃ b0, w.heap.size = b0 := ⟨_, rfl⟩
 have hvl := valid_any t
 simp only [h.v] at hvl
 have HVL := hid hvl
 have HT := hid h
 have HCU := hid (fun (W : World) (hb : Below b0 w W) => cut_ok t h.v h.l zs v W (hv.below (hb0 ▸ hb)) (by omega))
 have HRO := hid (fun (bl : Nat) (W : World) (x : Value) (F0 : Nat → Prop) (hw : Below w.heap.size w W) (hI : AccR t w bl [] [] F0 W) (hx : ListO w.heap.size W x (cutZ t.ln zs)) (hxF : ∀ g, x.ownBlock = some g → ¬ F0 g) => rows_see (seer_rows h bl) h hn x W F0 hw hI hx hxF enter_rows)
 obtain ⟨va, vc, rfl, -, -⟩ := hv.slice
 have hbA : Below b0 w (w.alloc (.cells #[.int .i64 t.k, .int .i64 t.d, .int .i64 t.f, .int .i64 t.p, .int .u32 t.l, .int .i64 t.i, .slice t.ka t.kl t.kc, .slice t.sa t.sl t.sc, .slice t.pa t.pl t.pc] 34)) := by rw [← hb0]; exact (Below.refl _ _).alloc (Nat.le_refl _) _
 have hrA := World.alloc_heap_new w (.cells #[.int .i64 t.k, .int .i64 t.d, .int .i64 t.f, .int .i64 t.p, .int .u32 t.l, .int .i64 t.i, .slice t.ka t.kl t.kc, .slice t.sa t.sl t.sc, .slice t.pa t.pl t.pc] 34)
 rw [hb0] at hrA
 generalize hCZ : cutZ t.ln zs = CZ at *
 clear h hv hvl hCZ
 unfold TreeV.val at *
 go_enter Tryz.func23, Tryz.ntmps23
 go_upto_region 1 with (fail)
 generalize w.alloc (.cells #[.int .i64 t.k, .int .i64 t.d, .int .i64 t.f, .int .i64 t.p, .int .u32 t.l, .int .i64 t.i, .slice t.ka t.kl t.kc, .slice t.sa t.sl t.sc, .slice t.pa t.pl t.pc] 34) = wA at *
 go_wp2_with ((with_reducible show wpList _ _ _ (Oper.mk _ (Op.load 34 _) _ _ _ _ :: _) _ _); refine wpList_load_row rfl 34 _ rfl b0 rfl _ _ _ _ hrA Tryz.underlying34 rfl (by kernel_rfl) ?_)
 refine (HVL.out wA).mono ?_; rintro e w2 ⟨rfl, hb2⟩
 have hr2 := rowStay hrA hb2
 have hB2 := hbA.trans (hb2.mono (by have := (Array.getElem?_eq_some_iff.1 hrA).1; omega))
 have HB2 := hid hB2
 have hs2 : b0 < w2.heap.size := (Array.getElem?_eq_some_iff.1 hr2).1
 clear hrA hbA hb2 hB2
 go_upto_region 5 with (fail)
 refine letterW ?_
 intro V hV
 obtain ⟨bl, hbl⟩ : ∃ bl, w2.heap.size = bl := ⟨_, rfl⟩
 have hrB : V.heap[bl]? = some (.cells #[.slice none 0 0] 49 (0, 0)) := by rw [hV, ← hbl]; exact World.alloc_heap_new _ _
 have hbV : Below bl w2 V := by rw [hV, ← hbl]; exact (Below.refl _ _).alloc (Nat.le_refl _) _
 have hrV : V.heap[b0]? = some (.cells #[.int .i64 t.k, .int .i64 t.d, .int .i64 t.f, .int .i64 t.p, .int .u32 t.l, .int .i64 t.i, .slice t.ka t.kl t.kc, .slice t.sa t.sl t.sc, .slice t.pa t.pl t.pc] 34 (0, 0)) := (hbV.block b0 (by omega)).trans hr2
 have HBV := hid (HB2.out.trans (hbV.mono (show b0 ≤ bl by omega)))
 have hsV : bl < V.heap.size := (Array.getElem?_eq_some_iff.1 hrB).1
 have hacc : AccR t w bl [] [] (fun k => k = bl) V := ⟨.slice none 0 0, [], hrB, by omega, RowsV.nil _ _, fun k => ⟨fun h => .inl h, fun h => by
  rcases h with h | h | ⟨i, hi, h⟩
  ·exact h
  ·cases h
  ·simp [TreeV.accL] at hi⟩⟩
 have HACC := hid hacc
 rw [hbl]
 have hb0l : b0 < bl := by omega
 clear hV hbV hr2 hbl hrB hacc
 refine wp_region_c (n := 5) (w0 := V) (B := V.heap.size) [.v 13 (.agg #[.int .i64 t.k, .int .i64 t.d, .int .i64 t.f, .int .i64 t.p, .int .u32 t.l, .int .i64 t.i, .slice t.ka t.kl t.kc, .slice t.sa t.sl t.sc, .slice t.pa t.pl t.pc]), .v 14 (.agg #[.int .i64 t.k, .int .i64 t.d, .int .i64 t.f, .int .i64 t.p, .int .u32 t.l, .int .i64 t.i, .slice t.ka t.kl t.kc, .slice t.sa t.sl t.sc, .slice t.pa t.pl t.pc]), .v 15 (.slice va zs.length vc), .p 16 (fun u W => ListO V.heap.size W u CZ), .v 17 (.func (.func 39) #[] #[.pointer (some ⟨bl, 0, none⟩)])] (by exact ⟨(fun _ _ _ h hb => ListO.below h hb), trivial⟩) (Below.refl _ _).drew (Nat.le_refl _) ?_ ?_
 ·repeat' (with_reducible first | exact eachO_nil | refine eachO_cons ?_ ?_)
  ·intro AA x W hA hW hBW hdep D K hK
   have a2 := hA.2 2 (by decide)
   conv at a2 => rhs; whnf
   clear hdep hA
   exact wp_load_row 34 _ rfl b0 a2 _ _ _ _ (rowStay hrV hW) Tryz.underlying34 rfl (by kernel_rfl) (hK _ _ (Below.refl _ _) rfl)
  ·intro AA x W hA hW hBW hdep D K hK
   have a2 := hA.2 2 (by decide)
   conv at a2 => rhs; whnf
   clear hdep hA
   exact wp_load_row 34 _ rfl b0 a2 _ _ _ _ (rowStay hrV hW) Tryz.underlying34 rfl (by kernel_rfl) (hK _ _ (Below.refl _ _) rfl)
  ·intro AA x W hA hW hBW hdep D K hK
   have a1 := hA.2 1 (by decide)
   conv at a1 => rhs; whnf
   clear hdep hA
   go_simp
   exact hK _ _ (Below.refl _ _) rfl
  ·intro AA x W hA hW hBW hdep _ K hK
   have g14 := gv hA hdep 1 14
   have g15 := gv hA hdep 2 15
   clear hdep hA
   go_simp
   refine (HCU.out W (HBV.out.trans (hW.mono (by omega)))).mono ?_; rintro e w5 ⟨u, rfl, ho, hb5⟩
   exact hK _ _ hb5 (ho.le hBW)
  ·intro AA x W hA hW hBW hdep D K hK
   have a7 := hA.2 7 (by decide)
   conv at a7 => rhs; whnf
   clear hdep hA
   go_simp
   exact hK _ _ (Below.refl _ _) rfl
 intro x W hW hBW hall
 obtain ⟨e16, -⟩ := hall
 change (fun u W => ListO V.heap.size W u CZ) (x 16) W at e16
 refine thenTail_cons ?_
 simp only [layS, Act.put, List.setIfInBounds_toArray, List.set_cons_zero, List.set_cons_succ]
 generalize x 16 = X at *
 have hxF : ∀ g, X.ownBlock = some g → ¬ g = bl := fun g hg e => by
  obtain ⟨vs, ho, -⟩ := e16
  rcases ho.2 with ⟨rfl, -⟩ | ⟨g2, cap, cur, rfl, h5, -⟩
  ·cases hg
  ·simp only [Value.ownBlock, Option.some.injEq] at hg; omega
 have hbW := HBV.out.trans (hW.mono (show b0 ≤ V.heap.size by omega))
 have hk := KB.of_below hW (Nat.zero_le _)
 have hacW := (seer_rows HT.out bl).keep HACC.out (hW.mono (show w.heap.size ≤ V.heap.size by omega)) (fun k hk => hW.block k (by rw [show k = bl from hk]; exact hsV)) hk.bytes
 have HR := hid (HRO.out bl W X (fun k => k = bl) (by rw [hb0]; exact hbW) hacW (by rw [hb0]; exact e16.le (by omega)) hxF)
 have HBW := hid hbW
 have hblW : bl < W.heap.size := by have := hW.size; omega
 clear e16 hxF hbW hk hacW HRO HACC hrV
 go_wp2_with fail
 refine HR.out.mono ?_; rintro e w6 ⟨rfl, ⟨R, F', hR, hI, -⟩, hb6, -⟩
 go_wp2_with fail
 refine thenTail_nil ?_
 obtain ⟨lv, vs, l1, l2, l3, -⟩ := hI
 obtain ⟨la1, ln1, lc1, rfl⟩ := own_slice l3.1
 have c0 : w6.cell? ⟨bl, 0, none⟩ = some (.slice la1 ln1 lc1) := cell_of_heap l1 0
 have s0 : bl < w6.heap.size := (Array.getElem?_eq_some_iff.1 l1).1
 have HL3 := hid l3
 have HB6 := hid hb6
 have HTOP := hid hR
 clear l1 l3 hb6 hR
 go_wp2
 go_ret2
 exact ⟨_, rfl, ⟨R, HTOP.out, _, HL3.out⟩, (show Below w.heap.size w W by rw [hb0]; exact HBW.out).trans HB6.out⟩
theorem refNode_hold {t : TreeV} {kz z1 z2 : List Int} {w : World} (h : TreeOk t kz z1 z2 w) {row at_ : Nat} (hr : row ≤ 255) (ha : at_ < 281474976710656) (la rt : Bool) (ds : List Int) (dv bv kv : Value) (W : World)
  (ho : Hold W bv (t.blk z1 z2 row at_)) (hk : Hold W kv (keyL row kz)) (hd : Hold W dv ds) (hl : ds.length ≤ 1073741824) :
  Calls Tryz.prog 28 #[.agg #[.int .i64 t.k, bv, kv, .bool la, .int .i64 (t.outN rt), dv]] W fun e w' => ∃ u, e = .returned (.tuple #[u, .int .i64 0]) ∧ OwnB W.heap.size w' u (t.node kz z1 z2 row at_ la rt ds) ∧ Below W.heap.size W w' := by
 obtain ⟨h1, h2, h3, h4⟩ := h.okD hr ha
 rw [← TreeV.kB_big h.v]
 have h5 := h4 rt
 refine (refCall_ok t.big _ _ ds la _ bv kv dv W ho hk hd (by omega) h1 h2 (by omega)).mono ?_
 rintro e w' ⟨⟨u, rfl, hu⟩, hb⟩
 exact ⟨u, rfl, ⟨TreeV.node_bounds t kz z1 z2 row at_ la rt ds, hu⟩, hb⟩
theorem TreeV.callsR_at (t : TreeV) (kz z1 z2 zs : List Int) {r k : Nat} (h : k < (t.dataR kz z1 z2 zs r).length) : (t.callsR kz z1 z2 zs r).getD k .zero = t.callS kz z1 z2 r k (decide (k + 1 = (t.dataR kz z1 z2 zs r).length)) (t.rtR kz z1 z2 zs r) (nthL (t.dataR kz z1 z2 zs r) k) := by simp [TreeV.callsR, TreeV.rowC, List.getD_eq_getElem?_getD, h]
theorem take_mapS {α β : Type} (f : α → β) {L : List α} {k : Nat} (d : α) (h : k < L.length) : (L.take (k + 1)).map f = (L.take k).map f ++ [f (L.getD k d)] := by
 rw [List.take_succ, List.map_append]
 simp [List.getD_eq_getElem?_getD, h]
theorem rows10_ok (t : TreeV) (kz z1 z2 zs : List Int) (v : Value) (w : World) (h : TreeOk t kz z1 z2 w) (hv : Hold w v zs) (hn : zs.length ≤ 4194304) :
  Calls Tryz.prog 22 #[t.val, v] w fun e w' => ∃ u vs, e = .returned (.tuple #[u, .int .i64 0]) ∧ RowsV w.heap.size w' u vs ((t.allC kz z1 z2 zs ((t.rowsOf zs.length).length - 1 + 1)).map (·.map t.outC)) ∧ Below w.heap.size w w' := by
 obtain ⟨b0, hb0⟩ : ∃ b0, w.heap.size = b0 := ⟨_, rfl⟩
 obtain ⟨il, hil, hzl, hsl, hbl⟩ := info_parts info_lists
 have HLV := hid (fun (W : World) (hb : Below b0 w W) => levels_ok t kz z1 z2 zs v w W h hv (hb0 ▸ hb) hn)
 have hR := TreeV.rows_is (err_small h.v hn)
 have hpn : t.pn ≤ 255 := by have := (TreeV.valid_facts h.v).2.2.2.2.2.2.2.1; unfold TreeV.pn; omega
 have hlen := hR.len
 have hmost := hR.most
 have hAL := t.allC_length kz z1 z2 zs ((t.rowsOf zs.length).length - 1 + 1)
 have HAN := hid (show ∀ i, i < (t.allC kz z1 z2 zs ((t.rowsOf zs.length).length - 1 + 1)).length → ((t.allC kz z1 z2 zs ((t.rowsOf zs.length).length - 1 + 1)).getD i []).length ≤ 8388608 ∧ ∀ k, k < ((t.allC kz z1 z2 zs ((t.rowsOf zs.length).length - 1 + 1)).getD i []).length → ∀ s, ((t.allC kz z1 z2 zs ((t.rowsOf zs.length).length - 1 + 1)).getD i []).getD k .zero = s → ∀ (W : World) (bv kv dv : Value), Hold W bv s.bs → Hold W kv s.kz → Hold W dv s.ds →
   Calls Tryz.prog 28 #[.agg #[.int .i64 s.k, bv, kv, .bool s.la, .int .i64 s.o, dv]] W fun e w' => ∃ u, e = .returned (.tuple #[u, .int .i64 0]) ∧ OwnB W.heap.size w' u (t.outC s) ∧ Below W.heap.size W w' from fun i hi => by
  rw [hAL] at hi
  rw [TreeV.allC_at t kz z1 z2 zs hi]
  have hlen := TreeV.callsR_len h.v h.l kz z1 z2 zs i
  have hdf := TreeV.dataR_facts h.v h.l kz z1 z2 zs i
  refine ⟨by omega, fun k hk s hs W bv kv dv p1 p2 p3 => ?_⟩
  have hk2 : k < (t.dataR kz z1 z2 zs i).length := by unfold TreeV.callsR at hk; rwa [TreeV.rowC_length] at hk
  rw [TreeV.callsR_at t kz z1 z2 zs hk2] at hs
  subst hs
  exact refNode_hold h (by omega) (by omega) _ _ _ dv bv kv W p1 p2 p3 (by have := hdf.2.2 k; show (nthL _ _).length ≤ _; omega))
 generalize t.allC kz z1 z2 zs ((t.rowsOf zs.length).length - 1 + 1) = AC at *
 have hACn : AC.length ≤ 256 := by omega
 have hAC1 : 1 ≤ AC.length := by omega
 have hbA : Below b0 w (w.alloc (.cells #[.int .i64 t.k, .int .i64 t.d, .int .i64 t.f, .int .i64 t.p, .int .u32 t.l, .int .i64 t.i, .slice t.ka t.kl t.kc, .slice t.sa t.sl t.sc, .slice t.pa t.pl t.pc] 34)) := by rw [← hb0]; exact (Below.refl _ _).alloc (Nat.le_refl _) _
 have hrA := World.alloc_heap_new w (.cells #[.int .i64 t.k, .int .i64 t.d, .int .i64 t.f, .int .i64 t.p, .int .u32 t.l, .int .i64 t.i, .slice t.ka t.kl t.kc, .slice t.sa t.sl t.sc, .slice t.pa t.pl t.pc] 34)
 rw [hb0] at hrA
 clear h hv hR hpn hlen hmost hAL
 unfold TreeV.val at *
 go_enter Tryz.func22, Tryz.ntmps22
 go_upto_region 1 with (fail)
 generalize w.alloc (.cells #[.int .i64 t.k, .int .i64 t.d, .int .i64 t.f, .int .i64 t.p, .int .u32 t.l, .int .i64 t.i, .slice t.ka t.kl t.kc, .slice t.sa t.sl t.sc, .slice t.pa t.pl t.pc] 34) = wA at *
 go_wp2_with ((with_reducible show wpList _ _ _ (Oper.mk _ (Op.load 34 _) _ _ _ _ :: _) _ _); refine wpList_load_row rfl 34 _ rfl b0 rfl _ _ _ _ hrA Tryz.underlying34 rfl (by kernel_rfl) ?_)
 refine (HLV.out wA hbA).mono ?_; rintro e w2 ⟨u, rfl, hl, hb2⟩
 have hsA : b0 < wA.heap.size := (Array.getElem?_eq_some_iff.1 hrA).1
 have HB2 := hid (hbA.trans (hb2.mono (show b0 ≤ wA.heap.size by omega)))
 obtain ⟨vs, hvo, hvx⟩ := hl
 obtain ⟨g, cap, rfl, -, hg2, hg3⟩ := row_at hvo (by omega)
 have hvl : vs.length = AC.length := by have := hvo.1; simpa using this
 have HG3 := hid hg3
 have HVX := hid (show ∀ i, i < AC.length → CallsO w b0 w2 (vs.getD i undef) (AC.getD i []) from fun i hi => (hvx i hi).le (by omega))
 obtain ⟨bN, hbN⟩ : ∃ bN, w2.heap.size = bN := ⟨_, rfl⟩
 have hb0N : b0 < bN := by have := hb2.size; omega
 have hACi : (AC.length : Int) ≤ 256 := by omega
 clear hvo hvx hg3 hb2 hrA hbA hsA
 go_wp2_with fail
 go_loopw [8, 9] (fun o i wr => ∃ j : Nat, i = .int .i64 (j : Nat) ∧ j ≤ AC.length ∧ (∃ us, RowsV bN wr o us ((AC.take j).map (·.map t.outC))) ∧ Below bN w2 wr) (fun _ i _ => AC.length - (intOf i).toNat)
 case atStart => exact ⟨0, rfl, Nat.zero_le _, ⟨_, RowsV.nil _ _⟩, Below.refl _ _⟩
 case round =>
  obtain ⟨j, rfl, hj, ⟨us, ho⟩, hb⟩ := hrel
  rename World => wq
  by_cases hlt : j < AC.length
  case pos =>
   have hlt2 : (j : Int) < AC.length := by omega
   have hvj := (HVX.out j hlt).below (show w.heap.size ≤ w2.heap.size by omega) (hbN ▸ hb)
   have hcj : w2.cell? ⟨g, j, none⟩ = some (vs.getD j undef) := HG3.out j _ (by rw [List.getD_eq_getElem?_getD, List.getElem?_eq_getElem (by omega)]; rfl)
   obtain ⟨x, hx⟩ : ∃ x, vs.getD j undef = x := ⟨_, rfl⟩
   rw [hx] at hvj hcj
   obtain ⟨hSn, hSc⟩ := HAN.out j hlt
   have HTK := hid (take_mapS (fun z : List CallS => z.map t.outC) [] hlt)
   generalize AC.getD j [] = S at *
   obtain ⟨a8, c8, rfl⟩ := hvj.form
   have hcw : wq.cell? ⟨g, j, none⟩ = some (.slice a8 S.length c8) := (hb.cell (p := ⟨g, j, none⟩) (show g < bN by omega)).trans hcj
   have hbr : bN ≤ wq.heap.size := by have := hb.size; omega
   have HSC := hid hSc
   have HVJ := hid hvj
   have HO := hid ho
   have HB := hid hb
   obtain ⟨bM, hbM⟩ : ∃ bM, wq.heap.size = bM := ⟨_, rfl⟩
   have hSi : (S.length : Int) ≤ 8388608 := by omega
   obtain ⟨a7, n7, c7, rfl⟩ := own_slice ho.1
   clear hvj hcj hx hSc ho hb
   go_wp2_with fail
   go_loopw [10, 11] (fun r k wr => ∃ m : Nat, k = .int .i64 (m : Nat) ∧ m ≤ S.length ∧ ListO bM wr r ((S.take m).map t.outC) ∧ Below bM wq wr) (fun _ k _ => S.length - (intOf k).toNat)
   case atStart => exact ⟨0, rfl, Nat.zero_le _, ListO.nil _ _, Below.refl _ _⟩
   case round =>
    obtain ⟨m, rfl, hm, hro, hb⟩ := hrel
    have hcr : wr.cell? ⟨g, j, none⟩ = some (.slice a8 S.length c8) := (hb.cell (p := ⟨g, j, none⟩) (show g < bM by omega)).trans hcw
    have hbMr : bM ≤ wr.heap.size := by have := hb.size; omega
    have hgr : g < wr.heap.size := by omega
    by_cases hmt : m < S.length
    case pos =>
     have hmt2 : (m : Int) < S.length := by omega
     obtain ⟨s, hs⟩ : ∃ s, S.getD m .zero = s := ⟨_, rfl⟩
     obtain ⟨g1, k1, cur1, bv, kv, dv, e1, -, hg1, hc1, p1, p2, p3⟩ := (HVJ.out.below (by omega) (hbM ▸ hb)).get hmt hs
     simp only [Value.slice.injEq, true_and] at e1
     obtain ⟨rfl, rfl⟩ := e1
     have HTM := hid (take_mapS t.outC .zero hmt)
     rw [hs] at HTM
     have HCL := hid (HSC.out m hmt s hs wr bv kv dv p1 p2 p3)
     have HG1 := hid hg1
     have HC1 := hid hc1
     have HRO := hid hro
     have HBM := hid hb
     obtain ⟨xs, hxs⟩ := hro.row
     obtain ⟨a9, n9, c9, rfl⟩ := own_slice hxs
     have hmi : (m : Int) + 1 ≤ 9223372036854775807 := by omega
     have hSx : ((S.take m).map t.outC).length ≤ 8388608 := by rw [List.length_map, List.length_take]; omega
     have HSX := hid hSx
     clear hs hg1 hc1 p1 p2 p3 hro hb hxs hSx
     go_wp2_with ((with_reducible show wpList _ _ _ (Oper.mk _ (Op.load 25 _) _ _ _ _ :: _) _ _); refine wpList_plain rfl fun K hK => wp_load_part 25 _ rfl g1 (m * 6) rfl 25 cur1 #[.int .i64 s.k, bv, kv, .bool s.la, .int .i64 s.o, dv] (0, 0) _ HG1.out Tryz.underlying25 rfl (by kernel_rfl) HC1.out (hK _ _ ?_))
     refine HCL.out.mono ?_; rintro e w5 ⟨u, rfl, hu, hb5⟩
     have HU := hid (hu.le hbMr)
     have HO5 := hid (HRO.out.below hb5)
     have HB5 := hid (HBM.out.trans (hb5.mono hbMr))
     have hs5 := hb5.size
     obtain ⟨u1, u3, rfl, -, -⟩ := hu.hold.slice
     generalize t.outC s = ND at *
     clear hu hb5 hcr
     go_wp2_with (first | ((with_reducible show wpList _ _ _ (Oper.mk _ (Op.buildSlice _ _ _) _ _ _ _ :: _) _ _); refine wpList_build1 rfl _ rfl _ _ _ rfl ?_) | (at_builtin; refine wpList_pushB rfl _ _ rfl bM (.slice a9 n9 c9) ((S.take m).map t.outC) ND (.slice u1 ND.length u3) rfl HO5.out HU.out rfl HSX.out (by omega) ?_; intro v' w' hlo' hkb' hsp' hat'))
     exact ⟨⟨m + 1, rfl, by omega, by rw [HTM.out]; exact hlo', HB5.out.trans hkb'.below⟩, by simp [intOf]; omega⟩
    obtain rfl : m = S.length := by omega
    rw [List.take_length] at hro
    obtain ⟨xs, hxs⟩ := hro.row
    obtain ⟨a9, n9, c9, rfl⟩ := own_slice hxs
    have hbr2 : Below wr.heap.size wr (wr.alloc (.cells #[.slice a9 n9 c9] 54)) := (Below.refl _ _).alloc (Nat.le_refl _) _
    have hrW := World.alloc_heap_new wr (.cells #[.slice a9 n9 c9] 54)
    have hone : (wr.alloc (.cells #[.slice a9 n9 c9] 54)).ownsRow bN 54 1 (.slice (some ⟨wr.heap.size, 0, none⟩) 1 1) 1 [.slice a9 n9 c9] := ⟨rfl, .inr ⟨_, 1, _, rfl, by omega, hrW, by decide, by decide, rfl, rfl⟩⟩
    obtain ⟨bK, hbK⟩ : ∃ bK, wr.heap.size = bK := ⟨_, rfl⟩
    rw [show Value.slice (some ⟨wr.heap.size, 0, none⟩) 1 1 = Value.slice (some ⟨bK, 0, none⟩) 1 1 by rw [hbK]] at hone
    have hss : (wr.alloc (.cells #[.slice a9 n9 c9] 54)).heap.size = bK + 1 := by rw [← hbK]; simp
    have HOW := hid ((HO.out.below (hbM ▸ hb)).below hbr2)
    have HRW := hid ((hro.below hbr2).le (show bN ≤ bM by omega))
    have HONE := hid hone
    have HBW := hid (HB.out.trans ((hb.trans (hbr2.mono hbMr)).mono (show bN ≤ bM by omega)))
    have hal : ((AC.take j).map (·.map t.outC)).length = j := by rw [List.length_map, List.length_take]; omega
    have HAL := hid hal
    have HAP := hid (show ∀ i g, i < ((AC.take j).map (·.map t.outC)).length → (us.getD i undef).ownBlock = some g → (Value.slice a9 n9 c9).ownBlock ≠ some g from fun i g hi hg e => by
     obtain ⟨ys, hys⟩ := (HO.out.2.1 i hi).row
     have h1 := own_block_lt hys g hg
     have h2 := own_block_ge hxs g e
     omega)
    clear hone hbr2 hrW hxs hro hb hal
    go_wp2_with (first | ((with_reducible show wpList _ _ _ (Oper.mk _ (Op.buildSlice _ _ _) _ _ _ _ :: _) _ _); refine wpList_buildN rfl _ rfl _ _ _ rfl ?_; rw [hbK]; generalize wr.alloc (.cells #[.slice a9 n9 c9] 54) = wB at *) | (at_builtin; refine wpList_catR rfl _ _ _ rfl bN 54 (by decide) il (.slice none 0 0) 1 24 Tryz.underlying49 hil hzl hsl hbl rfl (by decide) (.slice a7 n7 c7) ((AC.take j).map (·.map t.outC)).length us rfl HOW.out.1 bN (.slice (some ⟨bK, 0, none⟩) 1 1) 1 [.slice a9 n9 c9] rfl HONE.out (by omega) (by simp [Value.oneCell']) (by rw [HAL.out]; unfold maxLen; omega) (by rw [HAL.out]; omega) (by omega) ?_; intro v' w' hown' hkb' hsp' hat'))
    refine ⟨⟨j + 1, rfl, by omega, ⟨us ++ [.slice a9 n9 c9], ?_⟩, HBW.out.trans hkb'.below⟩, by simp [intOf]; omega⟩
    rw [HTK.out]
    exact RowsV.push HOW.out HRW.out HAP.out hown' hkb' hsp'
  obtain rfl : j = AC.length := by omega
  rw [List.take_length] at ho
  obtain ⟨a7, n7, c7, rfl⟩ := own_slice ho.1
  have HO := hid (ho.le (show b0 ≤ bN by omega))
  have HB := hid hb
  clear ho hb
  go_wp2
  go_ret2
  exact ⟨_, us, rfl, by rw [hb0]; exact HO.out, by rw [hb0]; exact HB2.out.trans (HB.out.mono (by omega))⟩
def Keeps (w w' : World) : Prop := ∀ (g : Nat) (cur : Array Value), w.heap[g]? = some (.cells cur 5 (0, 0)) → ∃ cur' : Array Value, w'.heap[g]? = some (.cells cur' 5 (0, 0)) ∧ cur'.size = cur.size ∧ ∀ (j : Nat) (z : Int), cur[j]? = some (.int .u8 z) → ∃ z' : Int, cur'[j]? = some (.int .u8 z')
theorem Keeps.refl (w : World) : Keeps w w := fun _ cur h => ⟨cur, h, rfl, fun _ z h => ⟨z, h⟩⟩
theorem Keeps.trans {w w' w'' : World} (h : Keeps w w') (k : Keeps w' w'') : Keeps w w'' := fun g cur hg => by
 obtain ⟨c1, h1, h2, h3⟩ := h g cur hg
 obtain ⟨c2, k1, k2, k3⟩ := k g c1 h1
 refine ⟨c2, k1, k2.trans h2, fun j z hz => ?_⟩
 obtain ⟨z', hz'⟩ := h3 j z hz
 exact k3 j z' hz'
theorem Keeps.of_bytes {w w' : World} (h : ∀ (k : Nat) (c : Array Value), w.heap[k]? = some (.cells c 5 (0, 0)) → w'.heap[k]? = some (.cells c 5 (0, 0))) : Keeps w w' := fun g cur hg => ⟨cur, h g cur hg, rfl, fun _ z h => ⟨z, h⟩⟩
theorem Keeps.of_below {w w' : World} (hb : Below w.heap.size w w') : Keeps w w' := Keeps.of_bytes (KB.of_below hb (Nat.zero_le _)).bytes
theorem Keeps.of_spare {S : Nat → Prop} {w w' : World} (h : Spare S w w') (hS : ∀ k, S k) : Keeps w w' := Keeps.of_bytes fun k c hk => by rw [h.block k (Array.getElem?_eq_some_iff.1 hk).1 (hS k)]; exact hk
theorem Keeps.set {w : World} {g : Nat} {cur : Array Value} (h : w.heap[g]? = some (.cells cur 5 (0, 0))) (m : Nat) (z : Int) : Keeps w (w.setCell ⟨g, m, none⟩ (.int .u8 z)) := fun g' cur' h' => by
 by_cases e : g' = g
 ·subst e
  rw [h] at h'
  simp only [Option.some.injEq, Obj.cells.injEq] at h'
  obtain ⟨rfl, -, -⟩ := h'
  refine ⟨_, heap_setCell_same _ g' m cur _ _ h, by simp, fun j z' hz => ?_⟩
  rw [Array.getElem?_setIfInBounds]
  split
  ·rename_i e2
   split
   ·exact ⟨z, rfl⟩
   ·rename_i e3
    subst e2
    rw [Array.getElem?_eq_none (by omega)] at hz
    cases hz
  ·exact ⟨z', hz⟩
 ·exact ⟨cur', (heap_setCell_other _ _ _ _ e).trans h', rfl, fun _ z h => ⟨z, h⟩⟩
def Spl (w : World) (v : Value) (n : Nat) : Prop := (v = .slice none 0 0 ∧ n = 0) ∨ ∃ g cap cur, v = .slice (some ⟨g, 0, none⟩) n cap ∧ w.heap[g]? = some (.cells cur 5 (0, 0)) ∧ n ≤ cap ∧ cap ≤ cur.size ∧ cap ≤ maxLen ∧ ∀ j, j < n → ∃ z : Int, cur[j]? = some (.int .u8 z)
theorem Spl.keep {w w' : World} {v : Value} {n : Nat} (h : Spl w v n) (k : Keeps w w') : Spl w' v n := by
 rcases h with h | ⟨g, cap, cur, e, h1, h2, h3, h4, h5⟩
 ·exact .inl h
 ·obtain ⟨c, k1, k2, k3⟩ := k g cur h1
  refine .inr ⟨g, cap, c, e, k1, h2, by omega, h4, fun j hj => ?_⟩
  obtain ⟨z, hz⟩ := h5 j hj
  exact k3 j z hz
theorem Spl.of_own {B : Nat} {w : World} {v : Value} {zs : List Int} (h : OwnB B w v zs) : Spl w v zs.length := by
 rcases h.2 with ⟨rfl, rfl⟩ | ⟨g, cap, cur, rfl, h1, h2, h3, h4, h5, h6⟩
 ·exact .inl ⟨rfl, rfl⟩
 ·refine .inr ⟨g, cap, cur, rfl, h2, h3, h4, h5, fun j hj => ?_⟩
  have := congrArg (fun l : List Value => l[j]?) h6
  simp only [List.getElem?_take, hj, if_true, List.getElem?_map, List.getElem?_eq_getElem hj, Option.map_some] at this
  exact ⟨zs[j], by simpa [encB] using this⟩
def SpK (ob : Option Nat) (w wr : World) (v : Value) (m : Nat) : Prop :=
 (Spare (fun k => ob ≠ some k) w wr ∧ Keeps w wr) ∧ ((v = .slice none 0 0 ∧ m = 0) ∨ ∃ g cap cur, v = .slice (some ⟨g, 0, none⟩) m cap ∧ wr.heap[g]? = some (.cells cur 5 (0, 0)) ∧ m ≤ cap ∧ cap ≤ cur.size ∧ cap ≤ maxLen ∧ (ob = some g ∨ w.heap.size ≤ g))
theorem cell_curK {w : World} {g : Nat} {cur : Array Value} {T : TypeId} (h : w.heap[g]? = some (.cells cur T (0, 0))) (j : Nat) : w.cell? ⟨g, j, none⟩ = cur[j]? := by
 rw [cell_of_heap h j]
theorem wpList_spoilK {ops : Array Oper} {rest : List Oper} {o : Oper} {a : Act} {Q : Exit → Act → World → Prop} (hgd : o.guard = none) (s x : Operand)
  (ho : o.op = .call { callee := .builtin .append, args := #[s, x], argTypes := #[23, 23] }) {ob : Option Nat} {w W : World} {v : Value} {m : Nat} (hs : a.eval s = v) (hv : SpK ob w W v m)
  (u : Value) (hu : ∃ z, u = .int .u8 z) (T : TypeId) (hx : a.eval x = .slice (some ⟨W.heap.size, 0, none⟩) 1 1) (hm : m ≤ 70368744177000)
  (h : ∀ v' w', SpK ob w w' v' (m + 1) → wpList Tryz.prog ops Q rest (a.put o.dst v') w') : wpList Tryz.prog ops Q (o :: rest) a (W.alloc (.cells #[u] T)) := by
 obtain ⟨i0, hi, hz0, hz1, hz2⟩ := info_parts info_u8
 obtain ⟨⟨hsp, hkp⟩, hv⟩ := hv
 obtain ⟨uz, rfl⟩ := hu
 have hka : Keeps w (W.alloc (.cells #[.int .u8 uz] T)) := hkp.trans (Keeps.of_below ((Below.refl _ _).alloc (Nat.le_refl _) _))
 have hal : Spare (fun k => ob ≠ some k) w (W.alloc (.cells #[.int .u8 uz] T)) := hsp.trans (Spare.of_below _ ((Below.refl _ _).alloc (Nat.le_refl _) _)) (fun _ _ h => h)
 have hsz : W.heap.size < (W.alloc (.cells #[.int .u8 uz] T)).heap.size := by simp
 have hws := hsp.size
 rcases hv with ⟨rfl, rfl⟩ | ⟨g, cap, cur, rfl, h1, h2, h3, h4, h5⟩
 ·refine wpList_append_now hgd s x _ ho (W.alloc (.cells #[.int .u8 uz] T)) _ rfl (Below.refl _ _) 5 i0 (.int .u8 0) 1 Tryz.underlying23 hi hz0 hz1 hz2 rfl _ 0 [] hs (World.ownsRow_nil _ _ _ _) _ 1 [.int .u8 uz] hx (src_new W _ T rfl) (by unfold maxLen; omega) (by omega) ?_
  intro v' w' hown hb
  refine h v' w' ⟨⟨hal.trans (Spare.of_below _ hb) (fun _ _ h => h), hka.trans (Keeps.of_below hb)⟩, .inr ?_⟩
  rcases hown.2 with ⟨-, h0⟩ | ⟨g, cap, cur, rfl, k1, k2, k3, k4, k5, -⟩
  ·omega
  ·exact ⟨g, cap, cur, rfl, k2, by omega, by omega, k4, .inr (by omega)⟩
 ·have hg : g < W.heap.size := (Array.getElem?_eq_some_iff.1 h1).1
  have h1' : (W.alloc (.cells #[.int .u8 uz] T)).heap[g]? = some (.cells cur 5 (0, 0)) := ((Below.refl W.heap.size W).alloc (Nat.le_refl _) _).block g hg |>.trans h1
  refine wpList_append_arg _ hgd s x _ ho 5 i0 (.int .u8 0) 1 1 Tryz.underlying23 hi hz0 hz1 hz2 rfl (by decide) g 0 m cap (cur.toList.take m) hs (by simp; omega) (fun j u' hj => ?_) _ 1 1 [.int .u8 uz] hx rfl (cell_one_new W _ T) (by simp [Value.oneCell']) (fun hr j hj => ?_) (by unfold maxLen; omega) (by omega) (fun hr => ?_) (fun hr v' w' hown hgr => ?_)
  ·rw [Nat.zero_add, cell_curK h1']
   rw [List.getElem?_take] at hj
   split at hj
   ·simpa using hj
   ·cases hj
  ·obtain rfl : j = 0 := by simpa using hj
   rw [Nat.zero_add, Nat.mul_one, Nat.add_zero, cell_curK h1']
   refine ⟨?_, frozen_of_row _ g m _ _ h1'⟩
   rw [Array.getElem?_eq_getElem (by omega)]; rfl
  ·rw [Nat.zero_add, Nat.mul_one]
   show wpList _ _ _ _ _ ((W.alloc (.cells #[.int .u8 uz] T)).setCell ⟨g, m, none⟩ (.int .u8 uz))
   refine h _ _ ⟨⟨hal.trans (T := fun k => k ≠ g) ⟨rfl, rfl, rfl, by simp [World.setCell], fun k _ hk => heap_setCell_other _ _ _ _ hk⟩ (fun k hk hne e => ?_), hka.trans (Keeps.set h1' m uz)⟩, .inr ⟨g, cap, _, rfl, heap_setCell_same _ g m cur _ _ h1', hr, by simpa using h3, h4, h5⟩⟩
   subst e
   rcases h5 with h5 | h5
   ·exact hne h5
   ·omega
  ·refine h v' w' ⟨⟨hal.trans (Spare.of_grown hgr) (fun _ _ _ e => by cases e), hka.trans (Keeps.of_spare (Spare.of_grown hgr) (fun _ e => by cases e))⟩, .inr ?_⟩
   rcases hown.2 with ⟨-, h0⟩ | ⟨g', cap', cur', rfl, k1, k2, k3, k4, k5, -⟩
   ·omega
   ·exact ⟨g', cap', cur', rfl, k2, by omega, by omega, k4, .inr (by omega)⟩
theorem spoilK_ok (n : Nat) (v : Value) (w : World) (h : Spl w v n) (hn : n ≤ 70368744176000) :
  Calls Tryz.prog 21 #[v] w fun e w' => e = .returned (.tuple #[]) ∧ Spare (fun k => v.ownBlock ≠ some k) w w' ∧ Keeps w w' := by
 obtain ⟨ob, hob⟩ : ∃ ob, v.ownBlock = ob := ⟨_, rfl⟩
 rw [hob]
 have hst : SpK ob w w v n ∧ ∀ g cur, ob = some g → w.heap[g]? = some (.cells cur 5 (0, 0)) → ∀ j, j < n → ∃ z, cur[j]? = some (.int .u8 z) := by
  rcases h with ⟨rfl, rfl⟩ | ⟨g, cap, cur, rfl, h2, h3, h4, h5, h6⟩
  ·exact ⟨⟨⟨Spare.refl _ _, Keeps.refl _⟩, .inl ⟨rfl, rfl⟩⟩, fun g cur e => by rw [← hob] at e; cases e⟩
  ·refine ⟨⟨⟨Spare.refl _ _, Keeps.refl _⟩, .inr ⟨g, cap, cur, rfl, h2, h3, h4, h5, .inl hob.symm⟩⟩, fun g' cur' e h' j hj => ?_⟩
   rw [← hob] at e
   simp only [Value.ownBlock, Option.some.injEq] at e
   subst e
   rw [h2] at h'
   simp only [Option.some.injEq, Obj.cells.injEq] at h'
   obtain ⟨rfl, -, -⟩ := h'
   exact h6 j hj
 obtain ⟨a, c, rfl⟩ : ∃ a c, v = .slice a n c := by
  rcases h with ⟨rfl, rfl⟩ | ⟨g, cap, cur, rfl, -⟩
  ·exact ⟨_, _, rfl⟩
  ·exact ⟨_, _, rfl⟩
 clear h
 have HOB := hid hob
 have HST := hid hst
 have hn2 : (n : Int) ≤ 9223372036854775807 := by omega
 clear hob hst
 go_enter Tryz.func21, Tryz.ntmps21
 go_wp2_with fail
 go_loopw [2] (fun i wr => ∃ k : Nat, i = .int .i64 (k : Nat) ∧ k ≤ n ∧ SpK ob w wr (.slice a n c) n ∧ ∀ g cur, ob = some g → wr.heap[g]? = some (.cells cur 5 (0, 0)) → ∀ j, j < n → ∃ z, cur[j]? = some (.int .u8 z)) (fun i _ => n - (intOf i).toNat)
 case atStart => exact ⟨0, rfl, Nat.zero_le _, HST.out.1, HST.out.2⟩
 case round =>
  obtain ⟨k, rfl, hk, hs, hx⟩ := hrel
  by_cases hlt : k < n
  case pos =>
   have hlt2 : (k : Int) < n := by omega
   have hs2 := hs
   obtain ⟨⟨hsp, hkp⟩, hv⟩ := hs
   have HKP := hid hkp
   rcases hv with ⟨e, e2⟩ | ⟨g, cap, cur, e, h1, h2, h3, h4, h5⟩
   ·omega
   simp only [Value.slice.injEq] at e
   obtain ⟨rfl, -, rfl⟩ := e
   have hob : ob = some g := HOB.out.symm
   obtain ⟨z, hz⟩ := hx g cur hob h1 k hlt
   have c0 : wr.cell? ⟨g, k, none⟩ = some (.int .u8 z) := by rw [cell_curK h1]; exact hz
   have f0 := frozen_of_row wr g k _ _ h1
   have g0 : g < wr.heap.size := (Array.getElem?_eq_some_iff.1 h1).1
   have H1 := hid h1
   have HX := hid hx
   have HSP := hid hsp
   have HOG := hid hob
   clear h1 hx hsp hkp hob hs2 h5 hz
   go_wp2_with fail
   refine ⟨⟨k + 1, rfl, by omega, ⟨⟨HSP.out.trans (T := fun k => k ≠ g) ⟨rfl, rfl, rfl, by simp [World.setCell], fun k _ hk => heap_setCell_other _ _ _ _ hk⟩ (fun k hk hs e => hs (by rw [e]; exact HOG.out)), HKP.out.trans (Keeps.set H1.out k _)⟩, .inr ⟨g, c, _, rfl, heap_setCell_same _ g k cur _ _ H1.out, h2, by simpa using h3, h4, .inl HOG.out⟩⟩, fun g' cur' e h' j hj => ?_⟩, by simp [intOf]; omega⟩
   rw [HOG.out] at e
   obtain rfl := Option.some.inj e
   rw [heap_setCell_same _ g k cur _ _ H1.out] at h'
   simp only [Option.some.injEq, Obj.cells.injEq] at h'
   obtain ⟨rfl, -, -⟩ := h'
   rw [Array.getElem?_setIfInBounds]
   by_cases hjk : k = j
   ·subst hjk
    rw [if_pos rfl, if_pos (by omega)]
    exact ⟨_, rfl⟩
   ·rw [if_neg hjk]; exact HX.out g cur HOG.out H1.out j hj
  obtain rfl : k = n := by omega
  have HS := hid hs
  clear hs hx
  go_wp2_with fail
  go_loopw [0, 3] (fun s i wr => ∃ k' : Nat, i = .int .i64 (k' : Nat) ∧ k' ≤ 70 ∧ SpK ob w wr s (k + k')) (fun _ i _ => 70 - (intOf i).toNat)
  case atStart => exact ⟨0, rfl, by omega, HS.out⟩
  case round =>
   obtain ⟨m, rfl, hm, hs⟩ := hrel
   by_cases hlt : m < 70
   case pos =>
    have HS2 := hid hs
    obtain ⟨a2, n2, c2, rfl⟩ : ∃ a2 n2 c2, u0 = .slice a2 n2 c2 := by
     rcases hs.2 with ⟨rfl, -⟩ | ⟨g, cap, cur, rfl, -⟩
     ·exact ⟨_, _, _, rfl⟩
     ·exact ⟨_, _, _, rfl⟩
    have hw2 : IntKind.i64.wrap (17 + (m : Int)) = 17 + (m : Int) := by rw [IntKind.wrap_i64] <;> omega
    have hw3 : IntKind.u8.wrap (17 + (m : Int)) = 17 + (m : Int) := by rw [IntKind.wrap_u8] <;> omega
    clear hs
    go_wp2_with (at_builtin; refine wpList_spoilK rfl _ _ rfl rfl HS2.out _ ⟨_, rfl⟩ _ rfl (by omega) ?_; intro v' w' hs')
    exact ⟨⟨m + 1, rfl, by omega, hs'⟩, by simp [intOf]; omega⟩
   obtain rfl : m = 70 := by omega
   have HSF := hid hs.1
   clear hs
   go_wp2
   exact bodyPost_end (results_none rfl _ _ _) rfl ⟨rfl, HSF.out⟩
theorem ListO.form {B : Nat} {w : World} {v : Value} {L : List (List Int)} (h : ListO B w v L) : ∃ a c, v = .slice a L.length c ∧ (L.length : Int) ≤ 9223372036854775807 := by
 obtain ⟨vs, ho, -⟩ := h
 rcases ho.2 with ⟨rfl, e⟩ | ⟨g, cap, cur, rfl, -, -, h3, h4, -⟩
 ·exact ⟨none, 0, by rw [e], by omega⟩
 ·exact ⟨_, _, rfl, by unfold maxLen at h4; omega⟩
theorem alikes_ok (B1 B2 : Nat) (L : List (List Int)) (x y : Value) (w : World) (hx : ListO B1 w x L) (hy : ListO B2 w y L) :
  Calls Tryz.prog 25 #[x, y] w fun e w' => e = .returned (.bool true) ∧ Below w.heap.size w w' := by
 have HX := hid hx
 have HY := hid hy
 obtain ⟨xa, xc, rfl, hl⟩ := hx.form
 obtain ⟨ya, yc, rfl, -⟩ := hy.form
 have hnn : ((L.length : Int) != (L.length : Int)) = false := by simp
 clear hx hy
 go_enter Tryz.func25, Tryz.ntmps25
 go_wp2_with fail
 go_loopw [5] (fun i wr => ∃ k : Nat, i = .int .i64 (k : Nat) ∧ k ≤ L.length ∧ Below w.heap.size w wr) (fun i _ => L.length - (intOf i).toNat)
 case atStart => exact ⟨0, rfl, Nat.zero_le _, Below.refl _ _⟩
 case round =>
  obtain ⟨k, rfl, hk, hb⟩ := hrel
  by_cases hlt : k < L.length
  case pos =>
   have hlt2 : (k : Int) < L.length := by omega
   obtain ⟨g1, k1, u1, e1, hg1, hc1, ho1⟩ := (HX.out.below hb).get hlt
   obtain ⟨g2, k2, u2, e2, hg2, hc2, ho2⟩ := (HY.out.below hb).get hlt
   simp only [Value.slice.injEq, true_and] at e1 e2
   obtain ⟨rfl, rfl⟩ := e1
   obtain ⟨rfl, rfl⟩ := e2
   have HP := hid (fun (W : World) (hb : Below wr.heap.size wr W) => same10_ok _ u1 u2 W (ho1.hold.below hb) (ho2.hold.below hb))
   have HB := hid hb
   have hs := hb.size
   clear ho1 ho2 hb
   go_wp2_with fail
   refine wp_region_c (n := 10) (w0 := wr) (B := wr.heap.size) [.v 17 (.slice (some ⟨g1, 0, none⟩) L.length xc), .v 18 (.int .i64 (k : Nat)), .v 19 (.pointer (some ⟨g1, k, none⟩)), .v 20 u1, .v 21 (.slice (some ⟨g2, 0, none⟩) L.length yc), .v 22 (.int .i64 (k : Nat)), .v 23 (.pointer (some ⟨g2, k, none⟩)), .v 24 u2, .v 25 (.bool true), .v 26 (.bool false)] trivial (Below.refl _ _).drew (Nat.le_refl _) ?_ ?_
   ·repeat' (with_reducible first | exact eachO_nil | refine eachO_cons ?_ ?_)
    all_goals try
     intro AA x W hA hW hBW hdep D K hK
     have a0 := hA.2 0 (by decide)
     conv at a0 => rhs; whnf
     have a1 := hA.2 1 (by decide)
     conv at a1 => rhs; whnf
     have a5 := hA.2 5 (by decide)
     conv at a5 => rhs; whnf
     have y1 := (hW.cell (p := ⟨g1, k, none⟩) hg1).trans hc1
     have y2 := (hW.cell (p := ⟨g2, k, none⟩) hg2).trans hc2
     have z1 : g1 < W.heap.size := by omega
     have z2 : g2 < W.heap.size := by omega
     simp only [DepF, nthF] at D
     clear hdep hA
     go_simp
     exact hK _ _ BR rfl
    intro AA x W hA hW hBW hdep _ K hK
    have g20 := gv hA hdep 3 20
    have g24 := gv hA hdep 7 24
    clear hdep hA
    go_simp
    refine (HP.out W hW).mono ?_; rintro e w5 ⟨rfl, m5, rfl⟩
    exact hK _ _ (below_drewN W m5) rfl
   intro x W hW hBW _
   refine thenTail_nil ?_
   simp only [layS, Act.put, List.setIfInBounds_toArray, List.set_cons_zero, List.set_cons_succ]
   go_wp2
   exact ⟨⟨k + 1, by go_num, by omega, HB.out.trans (hW.mono hs)⟩, by simp [intOf]; omega⟩
  obtain rfl : k = L.length := by omega
  have HB := hid hb
  clear hb
  go_wp2
  go_ret
  exact ⟨rfl, HB.out⟩
def TreeV.rowsZ (t : TreeV) (kz z1 z2 zs : List Int) : List (List (List Int)) := if t.validE = 0 then (t.allC kz z1 z2 zs ((t.rowsOf zs.length).length - 1 + 1)).map (·.map t.outC) else []
def TreeV.levZ (t : TreeV) (kz z1 z2 zs : List Int) : List (List Int) := if t.validE = 0 then t.leafZ kz z1 z2 zs else []
theorem TreeV.rowsZ_sw (t : TreeV) (a1 : Option Addr) (c1 : Nat) (a2 : Option Addr) (c2 : Nat) (a3 : Option Addr) (c3 : Nat) (kz z1 z2 zs : List Int) : (t.sw a1 c1 a2 c2 a3 c3).rowsZ kz z1 z2 zs = t.rowsZ kz z1 z2 zs := by
 unfold TreeV.rowsZ TreeV.allC
 rw [show (t.sw a1 c1 a2 c2 a3 c3).callsR kz z1 z2 zs = t.callsR kz z1 z2 zs from funext (TreeV.callsR_sw t a1 c1 a2 c2 a3 c3 kz z1 z2 zs)]
 rfl
theorem TreeV.rowsZ_zero {t : TreeV} (h : t.validE = 0) (kz z1 z2 zs : List Int) : 0 < (t.rowsZ kz z1 z2 zs).length ∧ (t.rowsZ kz z1 z2 zs).getD 0 [] = t.levZ kz z1 z2 zs := by
 unfold TreeV.rowsZ TreeV.levZ
 rw [if_pos h, if_pos h]
 refine ⟨by rw [List.length_map, TreeV.allC_length]; omega, ?_⟩
 rw [List.getD_eq_getElem?_getD, List.getElem?_map]
 have h1 := TreeV.allC_at t kz z1 z2 zs (m := (t.rowsOf zs.length).length - 1 + 1) (i := 0) (by omega)
 rw [List.getD_eq_getElem?_getD] at h1
 have h2 : 0 < (t.allC kz z1 z2 zs ((t.rowsOf zs.length).length - 1 + 1)).length := by rw [TreeV.allC_length]; omega
 rw [List.getElem?_eq_getElem h2] at h1 ⊢
 rw [Option.map_some, Option.getD_some]
 rw [Option.getD_some] at h1
 rw [h1]
 unfold TreeV.callsR TreeV.rowC TreeV.leafZ TreeV.rowZ
 rw [List.map_map]
 rfl
theorem rows_any (t : TreeV) (kz z1 z2 zs : List Int) (v : Value) (w : World) (hl : 0 ≤ t.l ∧ t.l ≤ 4294967295) (hk : Hold w (.slice t.ka t.kl t.kc) kz) (hs : Hold w (.slice t.sa t.sl t.sc) z1) (hp : Hold w (.slice t.pa t.pl t.pc) z2) (hv : Hold w v zs) (hn : zs.length ≤ 4194304) :
  Calls Tryz.prog 23 #[t.val, v] w fun e w' => ∃ u vs, e = .returned (.tuple #[u, .int .i64 t.validE]) ∧ RowsV w.heap.size w' u vs (t.rowsZ kz z1 z2 zs) ∧ Below w.heap.size w w' := by
 unfold TreeV.rowsZ
 by_cases h : t.validE = 0
 ·refine (rowsT_ok t kz z1 z2 zs v w ⟨h, hl, hk, hs, hp⟩ hv hn).mono ?_
  rintro e w' ⟨u, rfl, ⟨R, hR, vs, ho⟩, hb⟩
  have hL := TreeV.leafZ_facts h hl kz z1 z2 zs
  have hT := top_rows (err_small h hn) kz z1 z2 (leafZ_rows h hl kz z1 z2 zs) hL.2.2
  rw [TreeV.topAt_one hR hT] at ho
  refine ⟨u, vs, by rw [h], ?_, hb⟩
  rw [if_pos h, TreeV.allC_succ, List.map_append]
  rw [accL_cur t _ (List.length_pos_iff.1 (TreeV.callsR_len h hl kz z1 z2 zs _).1)] at ho
  exact ho
 ·refine (rows_err t v w h).mono ?_
  rintro e w' ⟨rfl, hb⟩
  exact ⟨_, [], rfl, by rw [if_neg h]; exact RowsV.nil _ _, hb⟩
theorem rows10_any (t : TreeV) (kz z1 z2 zs : List Int) (v : Value) (w : World) (hl : 0 ≤ t.l ∧ t.l ≤ 4294967295) (hk : Hold w (.slice t.ka t.kl t.kc) kz) (hs : Hold w (.slice t.sa t.sl t.sc) z1) (hp : Hold w (.slice t.pa t.pl t.pc) z2) (hv : Hold w v zs) (hn : zs.length ≤ 4194304) :
  Calls Tryz.prog 22 #[t.val, v] w fun e w' => ∃ u vs, e = .returned (.tuple #[u, .int .i64 t.validE]) ∧ RowsV w.heap.size w' u vs (t.rowsZ kz z1 z2 zs) ∧ Below w.heap.size w w' := by
 unfold TreeV.rowsZ
 by_cases h : t.validE = 0
 ·refine (rows10_ok t kz z1 z2 zs v w ⟨h, hl, hk, hs, hp⟩ hv hn).mono ?_
  rintro e w' ⟨u, vs, rfl, ho, hb⟩
  exact ⟨u, vs, by rw [h], by rw [if_pos h]; exact ho, hb⟩
 ·refine (rows10_err t v w h).mono ?_
  rintro e w' ⟨rfl, hb⟩
  exact ⟨_, [], rfl, by rw [if_neg h]; exact RowsV.nil _ _, hb⟩
theorem leaves_any (t : TreeV) (kz z1 z2 zs : List Int) (v : Value) (w : World) (hl : 0 ≤ t.l ∧ t.l ≤ 4294967295) (hk : Hold w (.slice t.ka t.kl t.kc) kz) (hs : Hold w (.slice t.sa t.sl t.sc) z1) (hp : Hold w (.slice t.pa t.pl t.pc) z2) (hv : Hold w v zs) (hn : zs.length ≤ 4194304) :
  Calls Tryz.prog 24 #[t.val, v] w fun e w' => ∃ u, e = .returned (.tuple #[u, .int .i64 t.validE]) ∧ ListO w.heap.size w' u (t.levZ kz z1 z2 zs) ∧ Below w.heap.size w w' := by
 unfold TreeV.levZ
 by_cases h : t.validE = 0
 ·refine (leaves_ok t kz z1 z2 zs v w ⟨h, hl, hk, hs, hp⟩ hv hn).mono ?_
  rintro e w' ⟨u, rfl, ho, hb⟩
  exact ⟨u, by rw [h], by rw [if_pos h]; exact ho, hb⟩
 ·refine (leaves_err t v w h).mono ?_
  rintro e w' ⟨rfl, hb⟩
  exact ⟨_, rfl, by rw [if_neg h]; exact ListO.nil _ _, hb⟩
structure Spoils (w w' : World) : Prop where
 k : Keeps w w'
 o : ∀ (k : Nat) (c : Array Value) (T : TypeId) (fr : Nat × Nat), T ≠ 5 → w.heap[k]? = some (.cells c T fr) → w'.heap[k]? = some (.cells c T fr)
theorem Spoils.trans {w w' w'' : World} (h : Spoils w w') (k : Spoils w' w'') : Spoils w w'' := ⟨h.k.trans k.k, fun b c T fr hT hb => k.o b c T fr hT (h.o b c T fr hT hb)⟩
theorem Spoils.of_below {w w' : World} (hb : Below w.heap.size w w') : Spoils w w' := ⟨Keeps.of_below hb, fun b c T fr _ h => by rw [hb.block b (Array.getElem?_eq_some_iff.1 h).1]; exact h⟩
theorem Spl.at {w : World} {v : Value} {n : Nat} (h : Spl w v n) : ∀ g, v.ownBlock = some g → ∃ c, w.heap[g]? = some (.cells c 5 (0, 0)) := by
 intro g hg
 rcases h with ⟨rfl, -⟩ | ⟨g', cap, cur, rfl, h1, -⟩
 ·cases hg
 ·simp only [Value.ownBlock, Option.some.injEq] at hg
  subst hg
  exact ⟨_, h1⟩
theorem Spoils.of_spoil {w w' : World} {v : Value} {n : Nat} (h : Spl w v n) (hs : Spare (fun k => v.ownBlock ≠ some k) w w') (hk : Keeps w w') : Spoils w w' := ⟨hk, fun b c T fr hT hb => by
 rw [hs.block b (Array.getElem?_eq_some_iff.1 hb).1 (fun e => ?_)]
 ·exact hb
 ·obtain ⟨c2, h2⟩ := h.at b e
  rw [hb] at h2
  simp only [Option.some.injEq, Obj.cells.injEq] at h2
  exact hT h2.2.1⟩
theorem below_spoil {B : Nat} {w w' : World} {v : Value} (hs : Spare (fun k => v.ownBlock ≠ some k) w w') (hB : ∀ g, v.ownBlock = some g → B ≤ g) (h : B ≤ w.heap.size) : Below B w w' := ⟨hs.os, hs.tape, hs.output, hs.size, fun k hk => hs.block k (by omega) (fun e => by have := hB k e; omega)⟩
theorem own_spoils {w wr : World} {B T s n : Nat} {v : Value} {xs : List Value} (h : w.ownsRow B T s v n xs) (hT : T ≠ 5) (hs : Spoils w wr) : wr.ownsRow B T s v n xs := by
 refine ⟨h.1, ?_⟩
 rcases h.2 with h2 | ⟨g, cap, cur, rfl, h1, h2, h3⟩
 ·exact .inl h2
 ·exact .inr ⟨g, cap, cur, rfl, h1, hs.o g cur T _ hT h2, h3⟩
theorem RowsV.form {B : Nat} {w : World} {v : Value} {vs : List Value} {LL : List (List (List Int))} (h : RowsV B w v vs LL) : ∃ a c, v = .slice a LL.length c ∧ (LL.length : Int) ≤ 9223372036854775807 := by
 rcases h.1.2 with ⟨rfl, e⟩ | ⟨g, cap, cur, rfl, -, -, h3, h4, -⟩
 ·exact ⟨none, 0, by rw [e], by omega⟩
 ·exact ⟨_, _, rfl, by unfold maxLen at h4; omega⟩
theorem RowsV.at {B i : Nat} {w wr : World} {lv : Value} {vs : List Value} {LL : List (List (List Int))} (h : RowsV B w lv vs LL) (hs : Spoils w wr) (hi : i < LL.length) : ∃ g cap, lv = .slice (some ⟨g, 0, none⟩) LL.length cap ∧ g < wr.heap.size ∧ wr.cell? ⟨g, i, none⟩ = some (vs.getD i undef) := by
 obtain ⟨g, cap, e, -, h2, h3⟩ := row_at (own_spoils h.1 (by decide) hs) (by omega)
 refine ⟨g, cap, e, h2, h3 i _ ?_⟩
 have := h.len
 rw [List.getD_eq_getElem?_getD, List.getElem?_eq_getElem (by omega)]; rfl
theorem ListO.at {B k : Nat} {w wr : World} {v : Value} {L : List (List Int)} (h : ListO B w v L) (hs : Spoils w wr) (hk : k < L.length) : ∃ g cap x, v = .slice (some ⟨g, 0, none⟩) L.length cap ∧ g < wr.heap.size ∧ wr.cell? ⟨g, k, none⟩ = some x ∧ Spl wr x (nthL L k).length ∧ ∀ b, x.ownBlock = some b → B ≤ b := by
 obtain ⟨vs, ho, hx⟩ := h
 have hl : vs.length = L.length := by have := ho.1; simpa using this
 obtain ⟨g, cap, e, -, h2, h3⟩ := row_at (own_spoils ho (by decide) hs) (by omega)
 refine ⟨g, cap, vs.getD k undef, e, h2, h3 k _ ?_, (Spl.of_own (hx k hk)).keep hs.k, fun b hb => (fresh_block (hx k hk).2 b hb).1⟩
 rw [List.getD_eq_getElem?_getD, List.getElem?_eq_getElem (by omega)]; rfl
theorem TreeV.rows_len (t : TreeV) (hl : 0 ≤ t.l ∧ t.l ≤ 4294967295) (kz z1 z2 zs : List Int) (i k : Nat) : (nthL ((t.rowsZ kz z1 z2 zs).getD i []) k).length ≤ 64 ∧ (nthL (t.levZ kz z1 z2 zs) k).length ≤ 64 := by
 have nl : ∀ L : List (List Int), (∀ z ∈ L, z.length ≤ 64) → (nthL L k).length ≤ 64 := fun L h => by
  unfold nthL
  rw [List.getD_eq_getElem?_getD]
  cases e : L[k]? with
  | none => simp
  | some z => exact h z (List.mem_of_getElem? e)
 unfold TreeV.rowsZ TreeV.levZ
 by_cases h : t.validE = 0
 ·rw [if_pos h, if_pos h]
  have hL := TreeV.leafZ_facts h hl kz z1 z2 zs
  refine ⟨nl _ fun z hz => ?_, nl _ hL.2.2⟩
  by_cases hi : i < (t.rowsOf zs.length).length - 1 + 1
  ·have e : ((t.allC kz z1 z2 zs ((t.rowsOf zs.length).length - 1 + 1)).map (·.map t.outC)).getD i [] = t.lvlZ kz z1 z2 (t.leafZ kz z1 z2 zs) i := by
    have h1 := TreeV.allC_at t kz z1 z2 zs hi
    have h2 : i < (t.allC kz z1 z2 zs ((t.rowsOf zs.length).length - 1 + 1)).length := by rw [TreeV.allC_length]; omega
    rw [List.getD_eq_getElem?_getD, List.getElem?_eq_getElem h2, Option.getD_some] at h1
    rw [List.getD_eq_getElem?_getD, List.getElem?_map, List.getElem?_eq_getElem h2, Option.map_some, Option.getD_some, h1, TreeV.lvl_is]
    unfold TreeV.callsR TreeV.rowC TreeV.rowZ
    rw [List.map_map]
    rfl
   rw [e] at hz
   exact (TreeV.lvlZ_facts h kz z1 z2 hL.1 hL.2.2 i).2.2 z hz
  ·rw [List.getD_eq_getElem?_getD, List.getElem?_eq_none (by rw [List.length_map, TreeV.allC_length]; omega)] at hz
   cases hz
 ·rw [if_neg h, if_neg h]
  exact ⟨by simp [nthL], by simp [nthL]⟩
theorem treeRows_walk (t : TreeV) (kz z1 z2 zs : List Int) (v : Value) (w : World) (hl : 0 ≤ t.l ∧ t.l ≤ 4294967295) (h1 : Hold w (.slice t.ka t.kl t.kc) kz) (h2 : Hold w (.slice t.sa t.sl t.sc) z1) (h3 : Hold w (.slice t.pa t.pl t.pc) z2) (hv : Hold w v zs) (hn : zs.length ≤ 4194304) (hk : t.kl ≤ 70368744177664) (hs : t.sl ≤ 70368744177664) (hp : t.pl ≤ 70368744177664) :
  Calls Tryz.prog 6 #[t.val, v] w (Trues w) := by
 obtain ⟨b0, hb0⟩ : ∃ b0, w.heap.size = b0 := ⟨_, rfl⟩
 have hrl := fun i k => t.rows_len hl kz z1 z2 zs i k
 have hz0 := fun (h : t.validE = 0) => TreeV.rowsZ_zero h kz z1 z2 zs
 have hz1 : t.validE ≠ 0 → t.rowsZ kz z1 z2 zs = [] ∧ t.levZ kz z1 z2 zs = [] := fun h => by unfold TreeV.rowsZ TreeV.levZ; rw [if_neg h, if_neg h]; exact ⟨rfl, rfl⟩
 have HOWN := hid (fun (W : World) (hb : Below b0 w W) => own10_ok t kz z1 z2 W (h1.below (hb0 ▸ hb)) (h2.below (hb0 ▸ hb)) (h3.below (hb0 ▸ hb)) hk hs hp)
 have HCPY := hid (fun (W : World) (hb : Below b0 w W) => copied_ok zs v W (hv.below (hb0 ▸ hb)) (by omega))
 have hrf := fun (W : World) (hb : Below b0 w W) => rows10_any t kz z1 z2 zs v W hl (h1.below (hb0 ▸ hb)) (h2.below (hb0 ▸ hb)) (h3.below (hb0 ▸ hb)) (hv.below (hb0 ▸ hb)) hn
 have hcl := fun (W : World) (x : Value) (a1 : Option Addr) (c1 : Nat) (a2 : Option Addr) (c2 : Nat) (a3 : Option Addr) (c3 : Nat) (k1 : Hold W (.slice a1 t.kl c1) kz) (k2 : Hold W (.slice a2 t.sl c2) z1) (k3 : Hold W (.slice a3 t.pl c3) z2) (hx : Hold W x zs) => rows_any (t.sw a1 c1 a2 c2 a3 c3) kz z1 z2 zs x W hl k1 k2 k3 hx hn
 have hlf := fun (W : World) (x : Value) (a1 : Option Addr) (c1 : Nat) (a2 : Option Addr) (c2 : Nat) (a3 : Option Addr) (c3 : Nat) (k1 : Hold W (.slice a1 t.kl c1) kz) (k2 : Hold W (.slice a2 t.sl c2) z1) (k3 : Hold W (.slice a3 t.pl c3) z2) (hx : Hold W x zs) => leaves_any (t.sw a1 c1 a2 c2 a3 c3) kz z1 z2 zs x W hl k1 k2 k3 hx hn
 simp only [TreeV.rowsZ_sw, show ∀ a1 c1 a2 c2 a3 c3, (t.sw a1 c1 a2 c2 a3 c3).levZ kz z1 z2 zs = t.levZ kz z1 z2 zs from fun _ _ _ _ _ _ => rfl, show ∀ a1 c1 a2 c2 a3 c3, (t.sw a1 c1 a2 c2 a3 c3).validE = t.validE from fun _ _ _ _ _ _ => rfl] at hcl hlf
 generalize t.rowsZ kz z1 z2 zs = Z at *
 generalize t.levZ kz z1 z2 zs = LZ at *
 generalize t.validE = ev at *
 have HREF := hid hrf
 have HCL := hid hcl
 have HLF := hid hlf
 have HRL := hid hrl
 have HZ0 := hid hz0
 have HZ1 := hid hz1
 obtain ⟨va, vc, rfl, hvc1, hvc2⟩ := hv.slice
 have hee : (ev != ev) = false := by simp
 have hnn : ((Z.length : Int) != (Z.length : Int)) = false := by simp
 have hbA : Below b0 w (w.alloc (.cells #[.int .i64 t.k, .int .i64 t.d, .int .i64 t.f, .int .i64 t.p, .int .u32 t.l, .int .i64 t.i, .slice t.ka t.kl t.kc, .slice t.sa t.sl t.sc, .slice t.pa t.pl t.pc] 34)) := by rw [← hb0]; exact (Below.refl _ _).alloc (Nat.le_refl _) _
 have hrA := World.alloc_heap_new w (.cells #[.int .i64 t.k, .int .i64 t.d, .int .i64 t.f, .int .i64 t.p, .int .u32 t.l, .int .i64 t.i, .slice t.ka t.kl t.kc, .slice t.sa t.sl t.sc, .slice t.pa t.pl t.pc] 34)
 rw [hb0] at hrA
 clear hl h1 h2 h3 hv hk hs hp hrf hcl hlf hrl hz0 hz1
 unfold TreeV.val at *
 go_enter Tryz.func6, Tryz.ntmps6
 go_upto_region 1 with (fail)
 generalize w.alloc (.cells #[.int .i64 t.k, .int .i64 t.d, .int .i64 t.f, .int .i64 t.p, .int .u32 t.l, .int .i64 t.i, .slice t.ka t.kl t.kc, .slice t.sa t.sl t.sc, .slice t.pa t.pl t.pc] 34) = wA at *
 have hsA : b0 < wA.heap.size := (Array.getElem?_eq_some_iff.1 hrA).1
 go_wp2_with ((with_reducible show wpList _ _ _ (Oper.mk _ (Op.load 34 _) _ _ _ _ :: _) _ _); refine wpList_load_row rfl 34 _ rfl b0 rfl _ _ _ _ hrA Tryz.underlying34 rfl (by kernel_rfl) ?_)
 refine (HREF.out wA hbA).mono ?_; rintro e w1 ⟨u, us, rfl, hu, hb1⟩
 have HB1 := hid (hbA.trans (hb1.mono (show b0 ≤ wA.heap.size by omega)))
 have HR1 := hid (rowStay hrA hb1)
 obtain ⟨ua, uc, rfl, hZi⟩ := hu.form
 have HWANT := hid hu
 obtain ⟨bE, hbE⟩ : ∃ bE, w1.heap.size = bE := ⟨_, rfl⟩
 have hb0E : b0 < bE := by have := hb1.size; omega
 clear hu hb1 hrA hbA hsA
 go_wp2_with fail
 go_loopw [7] (fun i wr => ∃ j : Nat, i = .int .i64 (j : Nat) ∧ j ≤ 2 ∧ Below bE w1 wr) (fun i _ => 2 - (intOf i).toNat)
 case atStart => exact ⟨0, rfl, by omega, Below.refl _ _⟩
 case round =>
  obtain ⟨j, rfl, hj, hb⟩ := hrel
  rename World => w2
  by_cases hlt : j < 2
  case pos =>
   have hlt2 : (j : Int) < 2 := by omega
   have hr2 := rowStay HR1.out (hbE ▸ hb)
   have hs2 : bE ≤ w2.heap.size := by have := hb.size; omega
   have HEw2 := hid hb
   have hsw2 := hs2
   clear hb hs2
   go_wp2_with ((with_reducible show wpList _ _ _ (Oper.mk _ (Op.load 34 _) _ _ _ _ :: _) _ _); refine wpList_load_row rfl 34 _ rfl b0 rfl _ _ _ _ hr2 Tryz.underlying34 rfl (by kernel_rfl) ?_)
   refine (HOWN.out w2 (HB1.out.trans (HEw2.out.mono (show b0 ≤ bE by omega)))).mono ?_; rintro e woA ⟨uA, rfl, hu, hb1⟩
   obtain ⟨a1, c1, a2, c2, a3, c3, rfl, k1, k2, k3⟩ := hu
   have HK1 := hid k1
   have HK2 := hid k2
   have HK3 := hid k3
   have HEwoA := hid (HEw2.out.trans (hb1.mono hsw2))
   have hroA := rowStay hr2 hb1
   have hswoA : bE ≤ woA.heap.size := by have := hb1.size; omega
   have hfoA := hb1.size
   have HFoA := hid hb1
   clear k1 k2 k3 hb1 hr2
   unfold TreeV.val
   go_wp2_with fail
   refine (HCPY.out woA (HB1.out.trans (HEwoA.out.mono (show b0 ≤ bE by omega)))).mono ?_; rintro e wcA ⟨x, rfl, hx, hb2⟩
   have hrcA := rowStay hroA hb2
   have hswcA : bE ≤ wcA.heap.size := by have := hb2.size; omega
   have hfcA : w2.heap.size ≤ wcA.heap.size := by have := hb2.size; omega
   have HFcA := hid (HFoA.out.trans (hb2.mono hfoA))
   have kb2 := KB.of_below hb2 (Nat.zero_le _)
   have HEwcA := hid (HEwoA.out.trans (hb2.mono hswoA))
   have HQ := hid (HCL.out wcA x a1 c1 a2 c2 a3 c3 (HK1.out.kb kb2).hold (HK2.out.kb kb2).hold (HK3.out.kb kb2).hold hx.hold)
   obtain ⟨xa, xc, rfl, -, -⟩ := hx.hold.slice
   clear hx hb2 kb2 hroA HK1 HK2 HK3
   go_wp2_with fail
   refine HQ.out.mono ?_; rintro e w3 ⟨rv, rvs, rfl, hrw, hb3⟩
   have hr3 := rowStay hrcA hb3
   have HEw3 := hid (HEwcA.out.trans (hb3.mono hswcA))
   have hsw3 : bE ≤ w3.heap.size := by have := hb3.size; omega
   have HRW := hid (hrw.le hswcA)
   obtain ⟨ra, rc, rfl, -⟩ := hrw.form
   clear hrw hb3 hrcA HQ
   go_wp2_with ((with_reducible show wpList _ _ _ (Oper.mk _ (Op.load 34 _) _ _ _ _ :: _) _ _); refine wpList_load_row rfl 34 _ rfl b0 rfl _ _ _ _ hr3 Tryz.underlying34 rfl (by kernel_rfl) ?_)
   refine (HOWN.out w3 (HB1.out.trans (HEw3.out.mono (show b0 ≤ bE by omega)))).mono ?_; rintro e woB ⟨uB, rfl, hu, hb1⟩
   obtain ⟨a1, c1, a2, c2, a3, c3, rfl, k1, k2, k3⟩ := hu
   have HK1 := hid k1
   have HK2 := hid k2
   have HK3 := hid k3
   have HEwoB := hid (HEw3.out.trans (hb1.mono hsw3))
   have hroB := rowStay hr3 hb1
   have hswoB : bE ≤ woB.heap.size := by have := hb1.size; omega
   have hfoB := hb1.size
   have HFoB := hid hb1
   clear k1 k2 k3 hb1 hr3
   unfold TreeV.val
   go_wp2_with fail
   refine (HCPY.out woB (HB1.out.trans (HEwoB.out.mono (show b0 ≤ bE by omega)))).mono ?_; rintro e wcB ⟨x, rfl, hx, hb2⟩
   have hrcB := rowStay hroB hb2
   have hswcB : bE ≤ wcB.heap.size := by have := hb2.size; omega
   have hfcB : w3.heap.size ≤ wcB.heap.size := by have := hb2.size; omega
   have HFcB := hid (HFoB.out.trans (hb2.mono hfoB))
   have kb2 := KB.of_below hb2 (Nat.zero_le _)
   have HEwcB := hid (HEwoB.out.trans (hb2.mono hswoB))
   have HQ := hid (HLF.out wcB x a1 c1 a2 c2 a3 c3 (HK1.out.kb kb2).hold (HK2.out.kb kb2).hold (HK3.out.kb kb2).hold hx.hold)
   obtain ⟨xa, xc, rfl, -, -⟩ := hx.hold.slice
   clear hx hb2 kb2 hroB HK1 HK2 HK3
   go_wp2_with fail
   refine HQ.out.mono ?_; rintro e w4 ⟨lv, rfl, hlo, hb4⟩
   have HEw4 := hid (HEwcB.out.trans (hb4.mono hswcB))
   have hsw4 : bE ≤ w4.heap.size := by have := hb4.size; omega
   have HLO := hid (hlo.le hswcB)
   have h34 : Below w3.heap.size w3 w4 := HFcB.out.trans (hb4.mono hfcB)
   have HRW4 := hid (HRW.out.below h34)
   have HW4 := hid (HWANT.out.below (hbE ▸ HEw4.out))
   obtain ⟨la, lc, rfl, hLZi⟩ := hlo.form
   clear h34 hlo hb4 hrcB HQ HRW HEw2 HEw3 HEwoA HEwcA HEwoB HEwcB HFoA HFcA HFoB HFcB hsw2 hsw3 hswoA hswcA hswoB hswcB hfoA hfcA hfoB hfcB
   go_wp2_with fail
   go_loopw [12] (fun i wr => ∃ k : Nat, i = .int .i64 (k : Nat) ∧ k ≤ Z.length ∧ Below w4.heap.size w4 wr) (fun i _ => Z.length - (intOf i).toNat)
   case atStart => exact ⟨0, rfl, Nat.zero_le _, Below.refl _ _⟩
   case round =>
    obtain ⟨k, rfl, hk, hb⟩ := hrel
    by_cases hkt : k < Z.length
    case pos =>
     have hkt2 : (k : Int) < Z.length := by omega
     obtain ⟨g1, k1, e1, hg1, hc1⟩ := HRW4.out.at (Spoils.of_below hb) hkt
     obtain ⟨g2, k2, e2, hg2, hc2⟩ := HW4.out.at (Spoils.of_below hb) hkt
     have ho1 := (HRW4.out.2.1 k hkt).below hb
     have ho2 := (HW4.out.2.1 k hkt).below hb
     simp only [Value.slice.injEq, true_and] at e1 e2
     obtain ⟨rfl, rfl⟩ := e1
     obtain ⟨rfl, rfl⟩ := e2
     obtain ⟨x1, hx1⟩ : ∃ x, rvs.getD k undef = x := ⟨_, rfl⟩
     obtain ⟨x2, hx2⟩ : ∃ x, us.getD k undef = x := ⟨_, rfl⟩
     rw [hx1] at hc1 ho1
     rw [hx2] at hc2 ho2
     have HP := hid (fun (W : World) (hb : Below wr.heap.size wr W) => alikes_ok _ _ _ x1 x2 W (ho1.below hb) (ho2.below hb))
     have HB := hid hb
     have hs := hb.size
     clear ho1 ho2 hb hx1 hx2
     go_wp2_with fail
     refine wp_region_c (n := 10) (w0 := wr) (B := wr.heap.size) [.v 63 (.slice (some ⟨g1, 0, none⟩) Z.length rc), .v 64 (.int .i64 (k : Nat)), .v 65 (.pointer (some ⟨g1, k, none⟩)), .v 66 x1, .v 67 (.slice (some ⟨g2, 0, none⟩) Z.length uc), .v 68 (.int .i64 (k : Nat)), .v 69 (.pointer (some ⟨g2, k, none⟩)), .v 70 x2, .v 71 (.bool true), .v 72 (.bool false)] trivial (Below.refl _ _).drew (Nat.le_refl _) ?_ ?_
     ·repeat' (with_reducible first | exact eachO_nil | refine eachO_cons ?_ ?_)
      all_goals try
       intro AA x W hA hW hBW hdep D K hK
       have a0 := hA.2 8 (by decide)
       conv at a0 => rhs; whnf
       have a1 := hA.2 12 (by decide)
       conv at a1 => rhs; whnf
       have a5 := hA.2 5 (by decide)
       conv at a5 => rhs; whnf
       have y1 := (hW.cell (p := ⟨g1, k, none⟩) hg1).trans hc1
       have y2 := (hW.cell (p := ⟨g2, k, none⟩) hg2).trans hc2
       have z1 : g1 < W.heap.size := by omega
       have z2 : g2 < W.heap.size := by omega
       simp only [DepF, nthF] at D
       clear hdep hA
       go_simp
       exact hK _ _ BR rfl
      intro AA x W hA hW hBW hdep _ K hK
      have g20 := gv hA hdep 3 66
      have g24 := gv hA hdep 7 70
      clear hdep hA
      go_simp
      refine (HP.out W hW).mono ?_; rintro e w5 ⟨rfl, hb5⟩
      exact hK _ _ hb5 rfl
     intro x W hW hBW _
     refine thenTail_nil ?_
     simp only [layS, Act.put, List.setIfInBounds_toArray, List.set_cons_zero, List.set_cons_succ]
     go_wp2
     exact ⟨⟨k + 1, by go_num, by omega, HB.out.trans (hW.mono hs)⟩, by simp [intOf]; omega⟩
    obtain rfl : k = Z.length := by omega
    have HRWr := hid (HRW4.out.below hb)
    have HLOr := hid (HLO.out.below hb)
    have HWr := hid (HW4.out.below hb)
    have HEr := hid (HEw4.out.trans (hb.mono hsw4))
    have hsr : bE ≤ wr.heap.size := by have := hb.size; omega
    clear hb HRW4 HLO HW4 HEw4
    by_cases he0 : ev = 0
    case' pos =>
     obtain ⟨z1, z2⟩ := HZ0.out he0
     have q0 : (ev == 0) = true := by rw [he0]; rfl
     have q1 : (ev != 0) = false := by rw [he0]; rfl
     obtain ⟨g2, k2, e2, hg2, hc2⟩ := HWr.out.at (Spoils.of_below (Below.refl _ _)) z1
     have ho2 := HWr.out.2.1 0 z1
     rw [z2] at ho2
     simp only [Value.slice.injEq, true_and] at e2
     obtain ⟨rfl, rfl⟩ := e2
     obtain ⟨x2, hx2⟩ : ∃ x, us.getD 0 undef = x := ⟨_, rfl⟩
     rw [hx2] at hc2 ho2
     have hz1 : (0 : Int) < Z.length := by omega
     have HP := hid (alikes_ok _ _ _ (.slice la LZ.length lc) x2 wr HLOr.out ho2)
     have HX2 := hid hx2
     clear ho2 z1 z2 he0 hx2
     go_wp2_with fail
     refine HP.out.mono ?_; rintro e wT ⟨rfl, hb⟩
     have HRWT := hid (HRWr.out.below hb)
     have HLOT := hid (HLOr.out.below hb)
     have HET := hid (HEr.out.trans (hb.mono hsr))
     have hsT : bE ≤ wT.heap.size := by have := hb.size; omega
     clear hb HRWr HLOr HWr HEr hsr hg2 hc2 hz1 HP HX2
     go_upto_region 16 with (fail)
     clear q0 q1
    case' neg =>
     obtain ⟨z1, z2⟩ := HZ1.out he0
     have q0 : (ev == 0) = false := by simp [he0]
     have q1 : (ev != 0) = true := by simp [he0]
     have q2 : ((LZ.length : Int) != 0) = false := by rw [z2]; rfl
     clear he0 z1 z2
     have HRWT := HRWr
     have HLOT := HLOr
     have HET := HEr
     have hsT := hsr
     clear HRWr HLOr HWr HEr hsr
     go_upto_region 16 with (fail)
     clear q0 q1 q2
     rename World => wT
    all_goals
     go_wp2_with fail
     go_loopw [13] (fun i wr => ∃ k : Nat, i = .int .i64 (k : Nat) ∧ k ≤ Z.length ∧ Spoils wT wr ∧ Below bE w1 wr) (fun i _ => Z.length - (intOf i).toNat)
     case atStart => exact ⟨0, rfl, Nat.zero_le _, Spoils.of_below (Below.refl _ _), HET.out⟩
     case round =>
      obtain ⟨k, rfl, hk, hsp, hb⟩ := hrel
      rename World => wq
      by_cases hkt : k < Z.length
      case pos =>
       have hkt2 : (k : Int) < Z.length := by omega
       have hxo := HRWT.out.2.1 k hkt
       obtain ⟨g1, k1, e1, hg1, hc1⟩ := HRWT.out.at hsp hkt
       simp only [Value.slice.injEq, true_and] at e1
       obtain ⟨rfl, rfl⟩ := e1
       obtain ⟨x1, hx1⟩ : ∃ x, rvs.getD k undef = x := ⟨_, rfl⟩
       rw [hx1] at hxo hc1
       have HR64 := hid (fun m => (HRL.out k m).1)
       generalize Z.getD k [] = S at *
       obtain ⟨a8, c8, rfl, hSi⟩ := hxo.form
       have HXO := hid hxo
       have HCC := hid (show ∀ W, Spoils wT W → W.cell? ⟨g1, k, none⟩ = some (.slice a8 S.length c8) ∧ g1 < W.heap.size from fun W hW => by
        obtain ⟨g3, k3, e3, hg3, hc3⟩ := HRWT.out.at hW hkt
        simp only [Value.slice.injEq, Option.some.injEq, Addr.mk.injEq, and_true, true_and] at e3
        obtain ⟨rfl, -⟩ := e3
        rw [hx1] at hc3
        exact ⟨hc3, hg3⟩)
       have HSP := hid hsp
       have HB := hid hb
       clear hxo hx1 hg1 hc1 hsp hb
       go_wp2_with fail
       go_loopw [14] (fun i wr => ∃ m : Nat, i = .int .i64 (m : Nat) ∧ m ≤ S.length ∧ Spoils wT wr ∧ Below bE w1 wr) (fun i _ => S.length - (intOf i).toNat)
       case atStart => exact ⟨0, rfl, Nat.zero_le _, HSP.out, HB.out⟩
       case round =>
        obtain ⟨m, rfl, hm, hsp, hb⟩ := hrel
        obtain ⟨hc1, hg1⟩ := HCC.out _ hsp
        by_cases hmt : m < S.length
        case pos =>
         have hmt2 : (m : Int) < S.length := by omega
         obtain ⟨g2, k2, x2, e2, hg2, hc2, hsl, hbl⟩ := HXO.out.at hsp hmt
         simp only [Value.slice.injEq, true_and] at e2
         obtain ⟨rfl, rfl⟩ := e2
         have HQ := hid (spoilK_ok _ x2 wr hsl (by have := HR64.out m; omega))
         have HSL := hid hsl
         have HBL := hid hbl
         have HSP2 := hid hsp
         have HB2 := hid hb
         have hbs : bE ≤ wr.heap.size := by have := hb.size; omega
         clear hsl hbl hsp hb
         go_wp2_with fail
         refine HQ.out.mono ?_; rintro e w9 ⟨rfl, hs9, hk9⟩
         have HS9 := hid (HSP2.out.trans (Spoils.of_spoil HSL.out hs9 hk9))
         have HB9 := hid (HB2.out.trans (below_spoil hs9 HBL.out hbs))
         clear hs9 hk9
         go_wp2_with fail
         exact ⟨⟨m + 1, rfl, by omega, HS9.out, HB9.out⟩, by simp [intOf]; omega⟩
        obtain rfl : m = S.length := by omega
        have HSP2 := hid hsp
        have HB2 := hid hb
        clear hsp hb
        go_wp2_with fail
        exact ⟨⟨k + 1, rfl, by omega, HSP2.out, HB2.out⟩, by simp [intOf]; omega⟩
      obtain rfl : k = Z.length := by omega
      have HSP := hid hsp
      have HB := hid hb
      clear hsp hb
      go_wp2_with fail
      go_loopw [15] (fun i wr => ∃ m : Nat, i = .int .i64 (m : Nat) ∧ m ≤ LZ.length ∧ Spoils wT wr ∧ Below bE w1 wr) (fun i _ => LZ.length - (intOf i).toNat)
      case atStart => exact ⟨0, rfl, Nat.zero_le _, HSP.out, HB.out⟩
      case round =>
       obtain ⟨m, rfl, hm, hsp, hb⟩ := hrel
       by_cases hmt : m < LZ.length
       case pos =>
        have hmt2 : (m : Int) < LZ.length := by omega
        obtain ⟨g2, k2, x2, e2, hg2, hc2, hsl, hbl⟩ := HLOT.out.at hsp hmt
        simp only [Value.slice.injEq, true_and] at e2
        obtain ⟨rfl, rfl⟩ := e2
        have HQ := hid (spoilK_ok _ x2 wr hsl (by have := (HRL.out 0 m).2; omega))
        have HSL := hid hsl
        have HBL := hid hbl
        have HSP2 := hid hsp
        have HB2 := hid hb
        have hbs : bE ≤ wr.heap.size := by have := hb.size; omega
        clear hsl hbl hsp hb
        go_wp2_with fail
        refine HQ.out.mono ?_; rintro e w9 ⟨rfl, hs9, hk9⟩
        have HS9 := hid (HSP2.out.trans (Spoils.of_spoil HSL.out hs9 hk9))
        have HB9 := hid (HB2.out.trans (below_spoil hs9 HBL.out hbs))
        clear hs9 hk9
        go_wp2_with fail
        exact ⟨⟨m + 1, rfl, by omega, HS9.out, HB9.out⟩, by simp [intOf]; omega⟩
       obtain rfl : m = LZ.length := by omega
       have HB2 := hid hb
       clear hsp hb
       go_wp2_with fail
       exact ⟨⟨j + 1, rfl, by omega, HB2.out⟩, by simp [intOf]; omega⟩
  obtain rfl : j = 2 := by omega
  have HB := hid (HB1.out.trans (hb.mono (show b0 ≤ bE by omega)))
  clear hb
  go_wp2
  go_ret
  exact ⟨rfl, by rw [hb0]; exact HB.out⟩
end Go.Proofs.YtjogmckaakkomaaGreat
namespace Go.Proofs.YtjogmckaakkomaaGreat
open Go.ChangeShapes Go.WideShapes Go.ChangeAt Go.RowKit Go.Joins Go.Shelf Go.Maps
open Go.Lib (hid)
theorem treeRows_call {H : Type} (enc : TypeId × Value → H) (W : World) (base : Nat) (args : Array Value) (ds : List (DataW H)) (p : List MemPlace)
  (hval : ∀ (j : Nat) t v, Tryz.f6.params[j]? = some t → args[j]? = some v → Value.okWide Tryz.prog W .any base t v)
  (hA : DataW.TrodAll enc Tryz.prog W 0 (fun _ => true) true Tryz.f6.params.toList args.toList ds p) (hlt : ∀ x ∈ p, x.block < W.heap.size)
  (hk : Rows.uptoSmall H ds = true) :
  Calls Tryz.prog 6 args W (Trues W) := by
 rw [Tryz.params6] at hA hval
 obtain ⟨v0, v1, d0, d1, p0, p1, rfl, rfl, rfl, h0, h1⟩ := trodAll_two hA
 have hb : Rows.uptoBulk d0 + (Rows.uptoBulk d1 + 0) ≤ 1048576 := of_decide_eq_true hk
 obtain ⟨t, kz, z1, z2, rfl, hl, ht, b1, b2, b3⟩ := openH_tree (hval 0 34 v0 rfl rfl) h0 (fun x hx => hlt x (by simp [hx]))
 obtain ⟨zs, hz, hm⟩ := openH_bytes (hval 1 23 v1 rfl rfl) h1 (fun x hx => hlt x (by simp [hx]))
 have e1 := hold_len ht.k
 have e2 := hold_len ht.s
 have e3 := hold_len ht.p
 exact treeRows_walk t kz z1 z2 zs v1 W hl ht.k ht.s ht.p hz (by omega) (by omega) (by omega) (by omega)
theorem treeRows_lifted (os : Os) (started : os.Started) (H : Type) (enc : TypeId × Value → H) (F0 : Stop.Interp) :
  ReturnsInHanded {} Tryz.checked os 6 .any ((Rows.OpenSpec.upto Rows.treeRowsSpec).pre6 enc Tryz.prog Tryz.f6 Rows.treeRowsUptoRow.domain false) (((Rows.OpenSpec.upto Rows.treeRowsSpec).at F0).post enc Tryz.prog Tryz.f6 false true false false) := by
 refine returnsInHanded_of_cond_sized (C := Tryz.checked) (s := Rows.OpenSpec.upto Rows.treeRowsSpec) (k := Rows.uptoSmall) rfl own started (by kernel_rfl) Tryz.func6
  (OpenSpec.witness (enc := enc) (C := Tryz.checked) (s := Rows.OpenSpec.upto Rows.treeRowsSpec) (k := Rows.uptoSmall) rfl false ⟨#[], #[.agg #[.int .i64 0, .int .i64 0, .int .i64 0, .int .i64 0, .int .u32 0, .int .i64 0, .slice none 0 0, .slice none 0 0, .slice none 0 0], .slice none 0 0], []⟩ 40 (by kernel_rfl) (by kernel_rfl) (by kernel_rfl)
   (x := ([.agg [.lit (.int .i64 0), .lit (.int .i64 0), .lit (.int .i64 0), .lit (.int .i64 0), .lit (.int .u32 0), .lit (.int .i64 0), .nil, .nil, .nil], .nil], [], [])) (by kernel_rfl) (by kernel_rfl) (by kernel_rfl)) ?_
 intro W base args ds gs before hval0 hW hcnd hk hz _
 have hW' := hW
 obtain ⟨p, q, hA0, hV, rfl, hfz, hnd⟩ := hW
 have hA : DataW.TrodAll enc Tryz.prog W 0 (fun _ => true) true Tryz.f6.params.toList args.toList ds p := hA0
 obtain ⟨rfl, rfl⟩ := trodVars_none hV
 have hk' : Rows.uptoSmall H ds = true := by rw [← List.append_nil ds]; exact hk
 refine (treeRows_call enc W base args ds p hval0 hA (fun x hx => hW'.lt x (by simpa using hx)) hk').mono fun e W' h => ⟨_, h.1, ?_⟩
 refine post_of_trues (s := (Rows.OpenSpec.upto Rows.treeRowsSpec).at F0) laidOut _ rfl Tryz.underlying4 (by decide +kernel) rfl hW' ?_ h.2
 have hA' := hA
 rw [Tryz.params6] at hA'
 obtain ⟨v0, v1, d0, d1, p0, p1, rfl, rfl, _⟩ := trodAll_two hA'
 rfl
theorem treeRows_holds : Rows.TreeRowsUptoSaid :=
 OpenClaim.holds_of_cond 6 Tryz.f6 rfl rfl rfl rfl rfl rfl rfl ⟨rfl, rfl, rfl, rfl, rfl⟩ rfl rfl rfl rfl rfl (by kernel_rfl) Tryz.func6 (by kernel_rfl)
  (of_decide_eq_true (by kernel_rfl)) (by unfold Func.isWrapper; first | (rw [if_pos (by decide +kernel)]; kernel_rfl) | (rw [if_neg (by decide +kernel)]; exact ⟨rfl, rfl⟩))
  (fun os started H enc _ F0 => by rw [OpenClaim.pre_of_none' rfl]; exact treeRows_lifted os started H enc F0)
#print axioms treeRows_holds
end Go.Proofs.YtjogmckaakkomaaGreat
