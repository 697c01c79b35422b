/- Turns: bits.RotateLeft64 and 32, the reference's Turn64 and turn. No condition. -/
import Derived.Test.YtahenngmaoellaaN02
import Derived.Test.YtahenngmaoellaaN10
import Derived.Lib.SmallJoins
import Derived.Lib.EndianBits
import Derived.Lib.Hide
import Derived.BigQuiet
import Derived.Deep.QuietTactic
import Derived.Test.YtahenngmaoellaaN08
set_option linter.all false
set_option maxRecDepth 100000
set_option maxHeartbeats 8000000
namespace Go.Proofs.Ytahenngmaoellaa
open Go.ChangeShapes Go.WideShapes Go.ChangeAt Go.RowKit Go.Joins
open Go.Lib (hid)
attribute [local go_sem] Oper.semAt_some
theorem shl_wrap (j r : Nat) (hr : r ≤ j) (x : Int) : x * 2 ^ (j - r) % 2 ^ j = x % 2 ^ r * 2 ^ (j - r) := by
 have e : (2 : Int) ^ j = 2 ^ r * 2 ^ (j - r) := by rw [← Int.pow_add, show r + (j - r) = j by omega]
 rw [e, Int.mul_comm x, Int.mul_comm (2 ^ r), Int.mul_emod_mul_of_pos _ _ (Int.pow_pos (by decide)), Int.mul_comm]
theorem rot_low (k : IntKind) (j r : Nat) (hj : j ≤ k.bits) (hk : ∀ n : Int, 0 ≤ n → n < 2 ^ j → k.wrap n = n) (hm : ∀ z, k.wrap z = z % 2 ^ j) (hr : r ≤ j) (x : Int) (hx : 0 ≤ x ∧ x < 2 ^ j) :
  bits .or k (x / 2 ^ r) (k.wrap (x * 2 ^ (j - r))) = rotR j r x := by
 have hp : (0 : Int) < 2 ^ r := Int.pow_pos (by decide)
 have hq : (0 : Int) < 2 ^ (j - r) := Int.pow_pos (by decide)
 have e : (2 : Int) ^ j = 2 ^ r * 2 ^ (j - r) := by rw [← Int.pow_add, show r + (j - r) = j by omega]
 have hb := rotR_bounds hr hx
 have m0 := Int.emod_nonneg x (Int.ne_of_gt hp)
 have d0 := Int.ediv_nonneg hx.1 (Int.le_of_lt hp)
 have d1 : x / 2 ^ r < 2 ^ (j - r) := Int.ediv_lt_of_lt_mul hp (by rw [Int.mul_comm, ← e]; exact hx.2)
 have k0 : 0 ≤ x % 2 ^ r * 2 ^ (j - r) := Int.mul_nonneg m0 (Int.le_of_lt hq)
 unfold rotR at hb ⊢
 rw [hm, shl_wrap j r hr]
 exact bits_join_low k j hj hk (j - r) _ _ d0 d1 (by omega) k0 (Int.mul_emod_left _ _) (by omega)
theorem rot_high (k : IntKind) (j r : Nat) (hj : j ≤ k.bits) (hk : ∀ n : Int, 0 ≤ n → n < 2 ^ j → k.wrap n = n) (hm : ∀ z, k.wrap z = z % 2 ^ j) (hr : r ≤ j) (x : Int) (hx : 0 ≤ x ∧ x < 2 ^ j) :
  bits .or k (k.wrap (x * 2 ^ (j - r))) (x / 2 ^ r) = rotR j r x := by
 rw [← rot_low k j r hj hk hm hr x hx]
 simp only [bits, BitVec.or_comm]
theorem wraps_u32 (n : Int) (h₀ : 0 ≤ n) (h₁ : n < 2 ^ 32) : IntKind.u32.wrap n = n := by rw [IntKind.wrap_u32]; omega
theorem rot64_high (r : Nat) (hr : r ≤ 64) (x : Int) (hx : 0 ≤ x ∧ x < 2 ^ 64) : bits .or .u64 (IntKind.u64.wrap (x * 2 ^ (64 - r))) (x / 2 ^ r) = rotR 64 r x := rot_high .u64 64 r (by decide) wraps_u64 (fun z => IntKind.wrap_u64 z) hr x hx
theorem rot32_high (r : Nat) (hr : r ≤ 32) (x : Int) (hx : 0 ≤ x ∧ x < 2 ^ 32) : bits .or .u32 (IntKind.u32.wrap (x * 2 ^ (32 - r))) (x / 2 ^ r) = rotR 32 r x := rot_high .u32 32 r (by decide) wraps_u32 (fun z => IntKind.wrap_u32 z) hr x hx
theorem ret_u {k : IntKind} {a b : Int} (h : a = b) : Ending.returned (.int k a) = .returned (.int k b) := by rw [h]
theorem rot64_32 (x : Int) (w : World) (hx : 0 ≤ x ∧ x < 2 ^ 64) : Calls Try.prog 83 #[.int .u64 x, .int .i64 (-32)] w fun e w' => e = .returned (.int .u64 (rotR 64 32 x)) ∧ w' = w := by
 have HX := hid (ret_u (k := .u64) (rot64_high 32 (by decide) x hx))
 have hk : bits BinOp.and IntKind.u64 (IntKind.u64.wrap (-32)) 63 = 32 := by decide
 go_enter Try.func83, Try.ntmps83
 go_wp2
 go_ret
 exact ⟨HX.out, rfl⟩
theorem rot64_24 (x : Int) (w : World) (hx : 0 ≤ x ∧ x < 2 ^ 64) : Calls Try.prog 83 #[.int .u64 x, .int .i64 (-24)] w fun e w' => e = .returned (.int .u64 (rotR 64 24 x)) ∧ w' = w := by
 have HX := hid (ret_u (k := .u64) (rot64_high 24 (by decide) x hx))
 have hk : bits BinOp.and IntKind.u64 (IntKind.u64.wrap (-24)) 63 = 40 := by decide
 go_enter Try.func83, Try.ntmps83
 go_wp2
 go_ret
 exact ⟨HX.out, rfl⟩
theorem rot64_16 (x : Int) (w : World) (hx : 0 ≤ x ∧ x < 2 ^ 64) : Calls Try.prog 83 #[.int .u64 x, .int .i64 (-16)] w fun e w' => e = .returned (.int .u64 (rotR 64 16 x)) ∧ w' = w := by
 have HX := hid (ret_u (k := .u64) (rot64_high 16 (by decide) x hx))
 have hk : bits BinOp.and IntKind.u64 (IntKind.u64.wrap (-16)) 63 = 48 := by decide
 go_enter Try.func83, Try.ntmps83
 go_wp2
 go_ret
 exact ⟨HX.out, rfl⟩
theorem rot64_63 (x : Int) (w : World) (hx : 0 ≤ x ∧ x < 2 ^ 64) : Calls Try.prog 83 #[.int .u64 x, .int .i64 (-63)] w fun e w' => e = .returned (.int .u64 (rotR 64 63 x)) ∧ w' = w := by
 have HX := hid (ret_u (k := .u64) (rot64_high 63 (by decide) x hx))
 have hk : bits BinOp.and IntKind.u64 (IntKind.u64.wrap (-63)) 63 = 1 := by decide
 go_enter Try.func83, Try.ntmps83
 go_wp2
 go_ret
 exact ⟨HX.out, rfl⟩
theorem rot32_16 (x : Int) (w : World) (hx : 0 ≤ x ∧ x < 2 ^ 32) : Calls Try.prog 84 #[.int .u32 x, .int .i64 (-16)] w fun e w' => e = .returned (.int .u32 (rotR 32 16 x)) ∧ w' = w := by
 have HX := hid (ret_u (k := .u32) (rot32_high 16 (by decide) x hx))
 have hk : bits BinOp.and IntKind.u64 (IntKind.u64.wrap (-16)) 31 = 16 := by decide
 go_enter Try.func84, Try.ntmps84
 go_wp2
 go_ret
 exact ⟨HX.out, rfl⟩
theorem rot32_12 (x : Int) (w : World) (hx : 0 ≤ x ∧ x < 2 ^ 32) : Calls Try.prog 84 #[.int .u32 x, .int .i64 (-12)] w fun e w' => e = .returned (.int .u32 (rotR 32 12 x)) ∧ w' = w := by
 have HX := hid (ret_u (k := .u32) (rot32_high 12 (by decide) x hx))
 have hk : bits BinOp.and IntKind.u64 (IntKind.u64.wrap (-12)) 31 = 20 := by decide
 go_enter Try.func84, Try.ntmps84
 go_wp2
 go_ret
 exact ⟨HX.out, rfl⟩
theorem rot32_8 (x : Int) (w : World) (hx : 0 ≤ x ∧ x < 2 ^ 32) : Calls Try.prog 84 #[.int .u32 x, .int .i64 (-8)] w fun e w' => e = .returned (.int .u32 (rotR 32 8 x)) ∧ w' = w := by
 have HX := hid (ret_u (k := .u32) (rot32_high 8 (by decide) x hx))
 have hk : bits BinOp.and IntKind.u64 (IntKind.u64.wrap (-8)) 31 = 24 := by decide
 go_enter Try.func84, Try.ntmps84
 go_wp2
 go_ret
 exact ⟨HX.out, rfl⟩
theorem rot32_7 (x : Int) (w : World) (hx : 0 ≤ x ∧ x < 2 ^ 32) : Calls Try.prog 84 #[.int .u32 x, .int .i64 (-7)] w fun e w' => e = .returned (.int .u32 (rotR 32 7 x)) ∧ w' = w := by
 have HX := hid (ret_u (k := .u32) (rot32_high 7 (by decide) x hx))
 have hk : bits BinOp.and IntKind.u64 (IntKind.u64.wrap (-7)) 31 = 25 := by decide
 go_enter Try.func84, Try.ntmps84
 go_wp2
 go_ret
 exact ⟨HX.out, rfl⟩
theorem cellOfRow {W : World} {b : Nat} {c : Array Value} {T : TypeId} {fr : Nat × Nat} (h : W.heap[b]? = some (.cells c T fr)) (i : Nat) : W.cell? ⟨b, i, none⟩ = c[i]? := by simp [World.cell?, h]
theorem rowFacts {W : World} {b : Nat} {cs : Array Value} {T : TypeId} (h : W.heap[b]? = some (Obj.cells cs T (0, 0))) : (∀ o, W.cell? ⟨b, o, none⟩ = cs[o]?) ∧ (∀ o, W.frozen? ⟨b, o, none⟩ = false) :=
 ⟨fun o => cellOfRow h o, fun o => by simp [World.frozen?, h]⟩
/-- All stays but the block b. -/
structure But (b : Nat) (w w' : World) : Prop where
 os : w'.os = w.os
 tape : w'.tape = w.tape
 output : w'.output = w.output
 size : w.heap.size ≤ w'.heap.size
 block : ∀ g, g < w.heap.size → g ≠ b → w'.heap[g]? = w.heap[g]?
namespace But
variable {b : Nat} {w w' w'' : World}
theorem refl (b : Nat) (w : World) : But b w w := ⟨rfl, rfl, rfl, Nat.le_refl _, fun _ _ _ => rfl⟩
theorem trans (h : But b w w') (k : But b w' w'') : But b w w'' :=
 ⟨k.os.trans h.os, k.tape.trans h.tape, k.output.trans h.output, Nat.le_trans h.size k.size, fun g hg hb => (k.block g (Nat.lt_of_lt_of_le hg h.size) hb).trans (h.block g hg hb)⟩
theorem below {n : Nat} (h : But b w w') (hn : n ≤ b) (hs : n ≤ w.heap.size) : Below n w w' := ⟨h.os, h.tape, h.output, h.size, fun g hg => h.block g (by omega) (by omega)⟩
theorem of_below (h : Below w.heap.size w w') : But b w w' := ⟨h.os, h.tape, h.output, h.size, fun g hg _ => h.block g hg⟩
theorem set (o : Nat) (v : Value) (h : But b w w') : But b w (w'.setCell ⟨b, o, none⟩ v) :=
 h.trans ⟨rfl, rfl, rfl, by simp, fun g _ hb => Below.heap_setCell _ _ _ _ hb⟩
theorem alloc (o : Obj) (h : But b w w') : But b w (w'.alloc o) := h.trans (of_below ((Below.refl _ _).alloc (Nat.le_refl _) _))
theorem drewN (n : Nat) (h : But b w w') : But b w (w'.drewN n) := h.trans ⟨rfl, rfl, rfl, Nat.le_refl _, fun _ _ _ => rfl⟩
end But
def arrV (k : IntKind) (L : List Int) : Array Value := (L.map fun z => Value.int k z).toArray
theorem arrV_at {k : IntKind} {N n : Nat} {L : List Int} (h : Words N n L) {i : Nat} (hi : i < n) : (arrV k L)[i]? = some (.int k (wd L i)) := by
 simp [arrV, wd, List.getD_eq_getElem?_getD, List.getElem?_eq_getElem (show i < L.length by rw [h.1]; exact hi)]
theorem arrV_set {k : IntKind} {L : List Int} {i : Nat} {x : Int} : (arrV k L).setIfInBounds i (.int k x) = arrV k (L.set i x) := by
 simp [arrV, List.map_set]
theorem w_of (N : Nat) (k : IntKind) (hm : ∀ z, k.wrap z = z % 2 ^ N) (a b c : Int) : k.wrap (a + k.wrap (b + c)) = (a + b + c) % 2 ^ N := by
 rw [hm, hm, Int.add_emod, Int.emod_emod, ← Int.add_emod, Int.add_assoc]
theorem set4 {L : List Int} {a b c d : Nat} (hab : a ≠ b) (hac : a ≠ c) (had : a ≠ d) (hbc : b ≠ c) (hbd : b ≠ d) (hcd : c ≠ d) (A1 D1 C1 B1 A2 D2 C2 B2 : Int) :
  (((((((L.set a A1).set d D1).set c C1).set b B1).set a A2).set d D2).set c C2).set b B2 = (((L.set a A2).set d D2).set c C2).set b B2 := by
 apply List.ext_getElem?
 intro i
 by_cases h1 : i = b
 ·subst h1; simp [List.getElem?_set, Ne.symm hab, Ne.symm hbc, Ne.symm hbd, hab, hbc, hbd]
 by_cases h2 : i = c
 ·subst h2; simp [List.getElem?_set, Ne.symm h1, hcd, Ne.symm hcd, hac, Ne.symm hac, hbc]
 by_cases h3 : i = d
 ·subst h3; simp [List.getElem?_set, Ne.symm h1, Ne.symm h2, had, Ne.symm had, hbd, hcd]
 by_cases h4 : i = a
 ·subst h4; simp [List.getElem?_set, Ne.symm h1, Ne.symm h2, Ne.symm h3]
 ·simp [List.getElem?_set, Ne.symm h1, Ne.symm h2, Ne.symm h3, Ne.symm h4]
theorem Words.emod (N : Nat) (z : Int) : 0 ≤ z % 2 ^ N ∧ z % 2 ^ N < 2 ^ N :=
 ⟨Int.emod_nonneg _ (Int.ne_of_gt (Int.pow_pos (by decide))), Int.emod_lt_of_pos _ (Int.pow_pos (by decide))⟩
theorem bits_bound (op : BinOp) (k : IntKind) (N : Nat) (hm : ∀ z, k.wrap z = z % 2 ^ N) (x y : Int) : 0 ≤ bits op k x y ∧ bits op k x y < 2 ^ N := by
 unfold bits
 simp only [hm]
 exact Words.emod N _
theorem letterW {P : Program} {c : Code} {Q : Exit → Act → World → Prop} {a : Act} {w : World} (h : ∀ W, W = w → Code.wp P c Q a W) : Code.wp P c Q a w := h w rfl
theorem wd_set {L : List Int} {i j : Nat} {x : Int} (h : i < L.length) : wd (L.set i x) j = if i = j then x else wd L j := by
 unfold wd
 by_cases e : i = j
 ·subst e; simp [h]
 ·simp [e, List.getD_eq_getElem?_getD, List.getElem?_set]
/-- An array in memory, and its words at four places. -/
structure At4 (k : IntKind) (b : Nat) (T : TypeId) (pa pb pc pd : Nat) (w0 : World) (L : List Int) (va vb vc vd : Int) (w : World) : Prop where
 heap : w.heap[b]? = some (.cells (arrV k L) T (0, 0))
 len : L.length = 16
 ea : wd L pa = va
 eb : wd L pb = vb
 ec : wd L pc = vc
 ed : wd L pd = vd
 lt : pa < 16 ∧ pb < 16 ∧ pc < 16 ∧ pd < 16
 ne : pa ≠ pb ∧ pa ≠ pc ∧ pa ≠ pd ∧ pb ≠ pc ∧ pb ≠ pd ∧ pc ≠ pd
 but : But b w0 w
namespace At4
variable {k : IntKind} {b : Nat} {T : TypeId} {pa pb pc pd : Nat} {w0 : World} {L : List Int} {va vb vc vd : Int} {w : World}
theorem facts (h : At4 k b T pa pb pc pd w0 L va vb vc vd w) : w.cell? ⟨b, pa, none⟩ = some (.int k va) ∧ w.cell? ⟨b, pb, none⟩ = some (.int k vb) ∧ w.cell? ⟨b, pc, none⟩ = some (.int k vc) ∧ w.cell? ⟨b, pd, none⟩ = some (.int k vd) ∧ (∀ o, w.frozen? ⟨b, o, none⟩ = false) ∧ b < w.heap.size := by
 have at_ : ∀ i, i < 16 → w.cell? ⟨b, i, none⟩ = some (.int k (wd L i)) := fun i hi => by
  rw [cellOfRow h.heap]
  simp [arrV, wd, List.getD_eq_getElem?_getD, List.getElem?_eq_getElem (show i < L.length by rw [h.len]; exact hi)]
 exact ⟨h.ea ▸ at_ pa h.lt.1, h.eb ▸ at_ pb h.lt.2.1, h.ec ▸ at_ pc h.lt.2.2.1, h.ed ▸ at_ pd h.lt.2.2.2, (rowFacts h.heap).2, (Array.getElem?_eq_some_iff.1 h.heap).1⟩
theorem setA (h : At4 k b T pa pb pc pd w0 L va vb vc vd w) (n : Nat) (x : Int) : At4 k b T pa pb pc pd w0 (L.set pa x) x vb vc vd ((w.drewN n).setCell ⟨b, pa, none⟩ (.int k x)) := by
 obtain ⟨hh, hl, ha, hb, hc, hd, lt, ne, hbut⟩ := h
 refine ⟨by rw [← arrV_set]; exact block_setCell (w := w.drewN n) hh _, by simpa using hl, ?_, ?_, ?_, ?_, lt, ne, (hbut.drewN n).set _ _⟩ <;> rw [wd_set (by omega)]
 ·simp
 ·rw [if_neg ne.1, hb]
 ·rw [if_neg ne.2.1, hc]
 ·rw [if_neg ne.2.2.1, hd]
theorem setB (h : At4 k b T pa pb pc pd w0 L va vb vc vd w) (n : Nat) (x : Int) : At4 k b T pa pb pc pd w0 (L.set pb x) va x vc vd ((w.drewN n).setCell ⟨b, pb, none⟩ (.int k x)) := by
 obtain ⟨hh, hl, ha, hb, hc, hd, lt, ne, hbut⟩ := h
 refine ⟨by rw [← arrV_set]; exact block_setCell (w := w.drewN n) hh _, by simpa using hl, ?_, ?_, ?_, ?_, lt, ne, (hbut.drewN n).set _ _⟩ <;> rw [wd_set (by omega)]
 ·rw [if_neg (Ne.symm ne.1), ha]
 ·simp
 ·rw [if_neg ne.2.2.2.1, hc]
 ·rw [if_neg ne.2.2.2.2.1, hd]
theorem setC (h : At4 k b T pa pb pc pd w0 L va vb vc vd w) (n : Nat) (x : Int) : At4 k b T pa pb pc pd w0 (L.set pc x) va vb x vd ((w.drewN n).setCell ⟨b, pc, none⟩ (.int k x)) := by
 obtain ⟨hh, hl, ha, hb, hc, hd, lt, ne, hbut⟩ := h
 refine ⟨by rw [← arrV_set]; exact block_setCell (w := w.drewN n) hh _, by simpa using hl, ?_, ?_, ?_, ?_, lt, ne, (hbut.drewN n).set _ _⟩ <;> rw [wd_set (by omega)]
 ·rw [if_neg (Ne.symm ne.2.1), ha]
 ·rw [if_neg (Ne.symm ne.2.2.2.1), hb]
 ·simp
 ·rw [if_neg ne.2.2.2.2.2, hd]
theorem setD (h : At4 k b T pa pb pc pd w0 L va vb vc vd w) (n : Nat) (x : Int) : At4 k b T pa pb pc pd w0 (L.set pd x) va vb vc x ((w.drewN n).setCell ⟨b, pd, none⟩ (.int k x)) := by
 obtain ⟨hh, hl, ha, hb, hc, hd, lt, ne, hbut⟩ := h
 refine ⟨by rw [← arrV_set]; exact block_setCell (w := w.drewN n) hh _, by simpa using hl, ?_, ?_, ?_, ?_, lt, ne, (hbut.drewN n).set _ _⟩ <;> rw [wd_set (by omega)]
 ·rw [if_neg (Ne.symm ne.2.2.1), ha]
 ·rw [if_neg (Ne.symm ne.2.2.2.2.1), hb]
 ·rw [if_neg (Ne.symm ne.2.2.2.2.2), hc]
 ·simp
theorem alloc (h : At4 k b T pa pb pc pd w0 L va vb vc vd w) (o : Obj) : At4 k b T pa pb pc pd w0 L va vb vc vd (w.alloc o) :=
 ⟨(Below.heap_alloc _ _ _ (Array.getElem?_eq_some_iff.1 h.heap).1).trans h.heap, h.len, h.ea, h.eb, h.ec, h.ed, h.lt, h.ne, h.but.alloc o⟩
theorem drew (h : At4 k b T pa pb pc pd w0 L va vb vc vd w) (n : Nat) : At4 k b T pa pb pc pd w0 L va vb vc vd (w.drewN n) := ⟨h.heap, h.len, h.ea, h.eb, h.ec, h.ed, h.lt, h.ne, h.but.drewN n⟩
theorem letter (h : At4 k b T pa pb pc pd w0 L va vb vc vd w) {W : World} (e : W = w) : At4 k b T pa pb pc pd w0 L va vb vc vd W := e ▸ h
end At4
theorem step64_any (b : Nat) (L : List Int) (hL : Words 64 16 L) (pa pb pc pd : Nat) (ha : pa < 16) (hb : pb < 16) (hc : pc < 16) (hd : pd < 16) (hab : pa ≠ pb) (hac : pa ≠ pc) (had : pa ≠ pd) (hbc : pb ≠ pc) (hbd : pb ≠ pd) (hcd : pc ≠ pd)
  (x y : Int) (T : TypeId) (w : World) (hw : w.heap[b]? = some (.cells (arrV .u64 L) T (0, 0))) :
  Calls Try.prog 80 #[.pointer (some ⟨b, 0, none⟩), .agg #[.int .i64 pa, .int .i64 pb, .int .i64 pc, .int .i64 pd], .int .u64 x, .int .u64 y] w fun e w' => e = .returned (.tuple #[]) ∧ w'.heap[b]? = some (.cells (arrV .u64 (mixBig.step L pa pb pc pd x y)) T (0, 0)) ∧ But b w w' := by
 have hbs : b < w.heap.size := (Array.getElem?_eq_some_iff.1 hw).1
 have h0 : At4 .u64 b T pa pb pc pd w L (wd L pa) (wd L pb) (wd L pc) (wd L pd) w := ⟨hw, hL.1, rfl, rfl, rfl, rfl, ⟨ha, hb, hc, hd⟩, ⟨hab, hac, had, hbc, hbd, hcd⟩, But.refl _ _⟩
 clear hw
 have hm : ∀ z, IntKind.u64.wrap z = z % 2 ^ 64 := fun z => IntKind.wrap_u64 z
 obtain ⟨A1, hA1⟩ : ∃ z, IntKind.u64.wrap (wd L pa + IntKind.u64.wrap (wd L pb + x)) = z := ⟨_, rfl⟩
 obtain ⟨X1, hX1⟩ : ∃ z, bits BinOp.xor .u64 (wd L pd) A1 = z := ⟨_, rfl⟩
 obtain ⟨D1, hD1⟩ : ∃ z, rotR 64 32 X1 = z := ⟨_, rfl⟩
 obtain ⟨C1, hC1⟩ : ∃ z, IntKind.u64.wrap (wd L pc + D1) = z := ⟨_, rfl⟩
 obtain ⟨X2, hX2⟩ : ∃ z, bits BinOp.xor .u64 (wd L pb) C1 = z := ⟨_, rfl⟩
 obtain ⟨B1, hB1⟩ : ∃ z, rotR 64 24 X2 = z := ⟨_, rfl⟩
 obtain ⟨A2, hA2⟩ : ∃ z, IntKind.u64.wrap (A1 + IntKind.u64.wrap (B1 + y)) = z := ⟨_, rfl⟩
 obtain ⟨X3, hX3⟩ : ∃ z, bits BinOp.xor .u64 D1 A2 = z := ⟨_, rfl⟩
 obtain ⟨D2, hD2⟩ : ∃ z, rotR 64 16 X3 = z := ⟨_, rfl⟩
 obtain ⟨C2, hC2⟩ : ∃ z, IntKind.u64.wrap (C1 + D2) = z := ⟨_, rfl⟩
 obtain ⟨X4, hX4⟩ : ∃ z, bits BinOp.xor .u64 B1 C2 = z := ⟨_, rfl⟩
 obtain ⟨B2, hB2⟩ : ∃ z, rotR 64 63 X4 = z := ⟨_, rfl⟩
 have R1 := hid (fun w => rot64_32 X1 w (hX1 ▸ bits_bound .xor .u64 64 hm _ _))
 have R2 := hid (fun w => rot64_24 X2 w (hX2 ▸ bits_bound .xor .u64 64 hm _ _))
 have R3 := hid (fun w => rot64_16 X3 w (hX3 ▸ bits_bound .xor .u64 64 hm _ _))
 have R4 := hid (fun w => rot64_63 X4 w (hX4 ▸ bits_bound .xor .u64 64 hm _ _))
 have ES : mixBig.step L pa pb pc pd x y = (((L.set pa A2).set pd D2).set pc C2).set pb B2 := by
  have e1 : A1 = mixBig.a1 (wd L pa) (wd L pb) x := by rw [← hA1]; exact w_of 64 .u64 hm _ _ _
  have e2 : D1 = mixBig.d1 (wd L pa) (wd L pb) (wd L pd) x := by rw [← hD1, ← hX1, e1]; rfl
  have e3 : C1 = mixBig.c1 (wd L pa) (wd L pb) (wd L pc) (wd L pd) x := by rw [← hC1, e2]; exact hm _
  have e4 : B1 = mixBig.b1 (wd L pa) (wd L pb) (wd L pc) (wd L pd) x := by rw [← hB1, ← hX2, e3]; rfl
  have e5 : A2 = mixBig.a2 (wd L pa) (wd L pb) (wd L pc) (wd L pd) x y := by rw [← hA2, e1, e4]; exact w_of 64 .u64 hm _ _ _
  have e6 : D2 = mixBig.d2 (wd L pa) (wd L pb) (wd L pc) (wd L pd) x y := by rw [← hD2, ← hX3, e2, e5]; rfl
  have e7 : C2 = mixBig.c2 (wd L pa) (wd L pb) (wd L pc) (wd L pd) x y := by rw [← hC2, e3, e6]; exact hm _
  have e8 : B2 = mixBig.b2 (wd L pa) (wd L pb) (wd L pc) (wd L pd) x y := by rw [← hB2, ← hX4, e4, e7]; rfl
  rw [e5, e6, e7, e8]
  rfl
 have ES' := hid ES
 rw [hD1] at R1
 rw [hB1] at R2
 rw [hD2] at R3
 rw [hB2] at R4
 clear hD1 hB1 hD2 hB2 ES hm
 generalize wd L pa = va at *
 generalize wd L pb = vb at *
 generalize wd L pc = vc at *
 generalize wd L pd = vd at *
 go_enter Try.func80, Try.ntmps80
 go_wp2_with fail
 obtain ⟨ca, cb, cc, cd, fb, hs⟩ := h0.facts
 go_quiet (fail)
 go_wp2_with fail
 clear ca cb cc cd fb hs
 replace h0 := (h0.alloc (.cells #[.int .i64 pa, .int .i64 pb, .int .i64 pc, .int .i64 pd] 161 (0, 0))).drew nq
 refine letterW ?_
 intro W0 hW
 have H0 := hid (h0.letter hW)
 obtain ⟨ca, cb, cc, cd, fb, hs⟩ := H0.out.facts
 clear hW h0
 refine wp_region_pop_q (by dsimp only [List.dropLast]) (by rfl) (by rfl) (by kernel_rfl) (by kernel_rfl) (by kernel_rfl) (by kernel_rfl) ?_
 repeat (go_big_quiet_step (fail))
 refine wpQuiet_nil ?_
 intro _ hw'
 obtain ⟨n0, rfl⟩ := hw'
 go_wp2_with fail
 clear ca cb cc cd fb hs
 have h1 := H0.out.setA n0 A1
 clear H0
 refine letterW ?_
 intro W1 hW
 have H1 := hid (h1.letter hW)
 obtain ⟨ca, cb, cc, cd, fb, hs⟩ := H1.out.facts
 clear hW h1
 refine wp_region_pop_q (by dsimp only [List.dropLast]) (by rfl) (by rfl) (by kernel_rfl) (by kernel_rfl) (by kernel_rfl) (by kernel_rfl) ?_
 repeat (go_big_quiet_step (exact Calls.quiet_of_same (R1.out _)))
 refine wpQuiet_nil ?_
 intro _ hw'
 obtain ⟨n1, rfl⟩ := hw'
 go_wp2_with fail
 clear ca cb cc cd fb hs
 have h2 := H1.out.setD n1 D1
 clear H1
 refine letterW ?_
 intro W2 hW
 have H2 := hid (h2.letter hW)
 obtain ⟨ca, cb, cc, cd, fb, hs⟩ := H2.out.facts
 clear hW h2
 refine wp_region_pop_q (by dsimp only [List.dropLast]) (by rfl) (by rfl) (by kernel_rfl) (by kernel_rfl) (by kernel_rfl) (by kernel_rfl) ?_
 repeat (go_big_quiet_step (fail))
 refine wpQuiet_nil ?_
 intro _ hw'
 obtain ⟨n2, rfl⟩ := hw'
 go_wp2_with fail
 clear ca cb cc cd fb hs
 have h3 := H2.out.setC n2 C1
 clear H2
 refine letterW ?_
 intro W3 hW
 have H3 := hid (h3.letter hW)
 obtain ⟨ca, cb, cc, cd, fb, hs⟩ := H3.out.facts
 clear hW h3
 refine wp_region_pop_q (by dsimp only [List.dropLast]) (by rfl) (by rfl) (by kernel_rfl) (by kernel_rfl) (by kernel_rfl) (by kernel_rfl) ?_
 repeat (go_big_quiet_step (exact Calls.quiet_of_same (R2.out _)))
 refine wpQuiet_nil ?_
 intro _ hw'
 obtain ⟨n3, rfl⟩ := hw'
 go_wp2_with fail
 clear ca cb cc cd fb hs
 have h4 := H3.out.setB n3 B1
 clear H3
 refine letterW ?_
 intro W4 hW
 have H4 := hid (h4.letter hW)
 obtain ⟨ca, cb, cc, cd, fb, hs⟩ := H4.out.facts
 clear hW h4
 refine wp_region_pop_q (by dsimp only [List.dropLast]) (by rfl) (by rfl) (by kernel_rfl) (by kernel_rfl) (by kernel_rfl) (by kernel_rfl) ?_
 repeat (go_big_quiet_step (fail))
 refine wpQuiet_nil ?_
 intro _ hw'
 obtain ⟨n4, rfl⟩ := hw'
 go_wp2_with fail
 clear ca cb cc cd fb hs
 have h5 := H4.out.setA n4 A2
 clear H4
 refine letterW ?_
 intro W5 hW
 have H5 := hid (h5.letter hW)
 obtain ⟨ca, cb, cc, cd, fb, hs⟩ := H5.out.facts
 clear hW h5
 refine wp_region_pop_q (by dsimp only [List.dropLast]) (by rfl) (by rfl) (by kernel_rfl) (by kernel_rfl) (by kernel_rfl) (by kernel_rfl) ?_
 repeat (go_big_quiet_step (exact Calls.quiet_of_same (R3.out _)))
 refine wpQuiet_nil ?_
 intro _ hw'
 obtain ⟨n5, rfl⟩ := hw'
 go_wp2_with fail
 clear ca cb cc cd fb hs
 have h6 := H5.out.setD n5 D2
 clear H5
 refine letterW ?_
 intro W6 hW
 have H6 := hid (h6.letter hW)
 obtain ⟨ca, cb, cc, cd, fb, hs⟩ := H6.out.facts
 clear hW h6
 refine wp_region_pop_q (by dsimp only [List.dropLast]) (by rfl) (by rfl) (by kernel_rfl) (by kernel_rfl) (by kernel_rfl) (by kernel_rfl) ?_
 repeat (go_big_quiet_step (fail))
 refine wpQuiet_nil ?_
 intro _ hw'
 obtain ⟨n6, rfl⟩ := hw'
 go_wp2_with fail
 clear ca cb cc cd fb hs
 have h7 := H6.out.setC n6 C2
 clear H6
 refine letterW ?_
 intro W7 hW
 have H7 := hid (h7.letter hW)
 obtain ⟨ca, cb, cc, cd, fb, hs⟩ := H7.out.facts
 clear hW h7
 refine wp_region_pop_q (by dsimp only [List.dropLast]) (by rfl) (by rfl) (by kernel_rfl) (by kernel_rfl) (by kernel_rfl) (by kernel_rfl) ?_
 repeat (go_big_quiet_step (exact Calls.quiet_of_same (R4.out _)))
 refine wpQuiet_nil ?_
 intro _ hw'
 obtain ⟨n7, rfl⟩ := hw'
 go_wp2_with fail
 clear ca cb cc cd fb hs
 have h8 := H7.out.setB n7 B2
 clear H7
 refine bodyPost_end (results_none rfl _ _ _) rfl ⟨rfl, ?_, h8.but⟩
 rw [ES'.out, ← set4 hab hac had hbc hbd hcd A1 D1 C1 B1]
 exact h8.heap
theorem step32_any (b : Nat) (L : List Int) (hL : Words 32 16 L) (pa pb pc pd : Nat) (ha : pa < 16) (hb : pb < 16) (hc : pc < 16) (hd : pd < 16) (hab : pa ≠ pb) (hac : pa ≠ pc) (had : pa ≠ pd) (hbc : pb ≠ pc) (hbd : pb ≠ pd) (hcd : pc ≠ pd)
  (x y : Int) (T : TypeId) (w : World) (hw : w.heap[b]? = some (.cells (arrV .u32 L) T (0, 0))) :
  Calls Try.prog 82 #[.pointer (some ⟨b, 0, none⟩), .int .i64 pa, .int .i64 pb, .int .i64 pc, .int .i64 pd, .int .u32 x, .int .u32 y] w fun e w' => e = .returned (.tuple #[]) ∧ w'.heap[b]? = some (.cells (arrV .u32 (mixSmall.step L pa pb pc pd x y)) T (0, 0)) ∧ But b w w' := by
 have hbs : b < w.heap.size := (Array.getElem?_eq_some_iff.1 hw).1
 have h0 : At4 .u32 b T pa pb pc pd w L (wd L pa) (wd L pb) (wd L pc) (wd L pd) w := ⟨hw, hL.1, rfl, rfl, rfl, rfl, ⟨ha, hb, hc, hd⟩, ⟨hab, hac, had, hbc, hbd, hcd⟩, But.refl _ _⟩
 clear hw
 have hm : ∀ z, IntKind.u32.wrap z = z % 2 ^ 32 := fun z => IntKind.wrap_u32 z
 obtain ⟨A1, hA1⟩ : ∃ z, (wd L pa + (wd L pb + x)) % 4294967296 = z := ⟨_, rfl⟩
 obtain ⟨X1, hX1⟩ : ∃ z, bits BinOp.xor .u32 (wd L pd) A1 = z := ⟨_, rfl⟩
 obtain ⟨D1, hD1⟩ : ∃ z, rotR 32 16 X1 = z := ⟨_, rfl⟩
 obtain ⟨C1, hC1⟩ : ∃ z, (wd L pc + D1) % 4294967296 = z := ⟨_, rfl⟩
 obtain ⟨X2, hX2⟩ : ∃ z, bits BinOp.xor .u32 (wd L pb) C1 = z := ⟨_, rfl⟩
 obtain ⟨B1, hB1⟩ : ∃ z, rotR 32 12 X2 = z := ⟨_, rfl⟩
 obtain ⟨A2, hA2⟩ : ∃ z, (A1 + (B1 + y)) % 4294967296 = z := ⟨_, rfl⟩
 obtain ⟨X3, hX3⟩ : ∃ z, bits BinOp.xor .u32 D1 A2 = z := ⟨_, rfl⟩
 obtain ⟨D2, hD2⟩ : ∃ z, rotR 32 8 X3 = z := ⟨_, rfl⟩
 obtain ⟨C2, hC2⟩ : ∃ z, (C1 + D2) % 4294967296 = z := ⟨_, rfl⟩
 obtain ⟨X4, hX4⟩ : ∃ z, bits BinOp.xor .u32 B1 C2 = z := ⟨_, rfl⟩
 obtain ⟨B2, hB2⟩ : ∃ z, rotR 32 7 X4 = z := ⟨_, rfl⟩
 have R1 := hid (fun w => rot32_16 X1 w (hX1 ▸ bits_bound .xor .u32 32 hm _ _))
 have R2 := hid (fun w => rot32_12 X2 w (hX2 ▸ bits_bound .xor .u32 32 hm _ _))
 have R3 := hid (fun w => rot32_8 X3 w (hX3 ▸ bits_bound .xor .u32 32 hm _ _))
 have R4 := hid (fun w => rot32_7 X4 w (hX4 ▸ bits_bound .xor .u32 32 hm _ _))
 have ES : mixSmall.step L pa pb pc pd x y = (((L.set pa A2).set pd D2).set pc C2).set pb B2 := by
  have e1 : A1 = mixSmall.a1 (wd L pa) (wd L pb) x := by rw [← hA1]; rw [← Int.add_assoc]; rfl
  have e2 : D1 = mixSmall.d1 (wd L pa) (wd L pb) (wd L pd) x := by rw [← hD1, ← hX1, e1]; rfl
  have e3 : C1 = mixSmall.c1 (wd L pa) (wd L pb) (wd L pc) (wd L pd) x := by rw [← hC1, e2]; rfl
  have e4 : B1 = mixSmall.b1 (wd L pa) (wd L pb) (wd L pc) (wd L pd) x := by rw [← hB1, ← hX2, e3]; rfl
  have e5 : A2 = mixSmall.a2 (wd L pa) (wd L pb) (wd L pc) (wd L pd) x y := by rw [← hA2, e1, e4]; rw [← Int.add_assoc]; rfl
  have e6 : D2 = mixSmall.d2 (wd L pa) (wd L pb) (wd L pc) (wd L pd) x y := by rw [← hD2, ← hX3, e2, e5]; rfl
  have e7 : C2 = mixSmall.c2 (wd L pa) (wd L pb) (wd L pc) (wd L pd) x y := by rw [← hC2, e3, e6]; rfl
  have e8 : B2 = mixSmall.b2 (wd L pa) (wd L pb) (wd L pc) (wd L pd) x y := by rw [← hB2, ← hX4, e4, e7]; rfl
  rw [e5, e6, e7, e8]
  rfl
 have ES' := hid ES
 rw [hD1] at R1
 rw [hB1] at R2
 rw [hD2] at R3
 rw [hB2] at R4
 clear hD1 hB1 hD2 hB2 ES hm
 generalize wd L pa = va at *
 generalize wd L pb = vb at *
 generalize wd L pc = vc at *
 generalize wd L pd = vd at *
 go_enter Try.func82, Try.ntmps82
 go_wp2_with fail
 refine letterW ?_
 intro W0 hW
 have H0 := hid (h0.letter hW)
 obtain ⟨ca, cb, cc, cd, fb, hs⟩ := H0.out.facts
 clear hW h0
 refine wp_region_pop_q (by dsimp only [List.dropLast]) (by rfl) (by rfl) (by kernel_rfl) (by kernel_rfl) (by kernel_rfl) (by kernel_rfl) ?_
 repeat (go_big_quiet_step (fail))
 refine wpQuiet_nil ?_
 intro _ hw'
 obtain ⟨n0, rfl⟩ := hw'
 go_wp2_with fail
 clear ca cb cc cd fb hs
 have h1 := H0.out.setA n0 A1
 clear H0
 refine letterW ?_
 intro W1 hW
 have H1 := hid (h1.letter hW)
 obtain ⟨ca, cb, cc, cd, fb, hs⟩ := H1.out.facts
 clear hW h1
 refine wp_region_pop_q (by dsimp only [List.dropLast]) (by rfl) (by rfl) (by kernel_rfl) (by kernel_rfl) (by kernel_rfl) (by kernel_rfl) ?_
 repeat (go_big_quiet_step (exact Calls.quiet_of_same (R1.out _)))
 refine wpQuiet_nil ?_
 intro _ hw'
 obtain ⟨n1, rfl⟩ := hw'
 go_wp2_with fail
 clear ca cb cc cd fb hs
 have h2 := H1.out.setD n1 D1
 clear H1
 refine letterW ?_
 intro W2 hW
 have H2 := hid (h2.letter hW)
 obtain ⟨ca, cb, cc, cd, fb, hs⟩ := H2.out.facts
 clear hW h2
 refine wp_region_pop_q (by dsimp only [List.dropLast]) (by rfl) (by rfl) (by kernel_rfl) (by kernel_rfl) (by kernel_rfl) (by kernel_rfl) ?_
 repeat (go_big_quiet_step (fail))
 refine wpQuiet_nil ?_
 intro _ hw'
 obtain ⟨n2, rfl⟩ := hw'
 go_wp2_with fail
 clear ca cb cc cd fb hs
 have h3 := H2.out.setC n2 C1
 clear H2
 refine letterW ?_
 intro W3 hW
 have H3 := hid (h3.letter hW)
 obtain ⟨ca, cb, cc, cd, fb, hs⟩ := H3.out.facts
 clear hW h3
 refine wp_region_pop_q (by dsimp only [List.dropLast]) (by rfl) (by rfl) (by kernel_rfl) (by kernel_rfl) (by kernel_rfl) (by kernel_rfl) ?_
 repeat (go_big_quiet_step (exact Calls.quiet_of_same (R2.out _)))
 refine wpQuiet_nil ?_
 intro _ hw'
 obtain ⟨n3, rfl⟩ := hw'
 go_wp2_with fail
 clear ca cb cc cd fb hs
 have h4 := H3.out.setB n3 B1
 clear H3
 refine letterW ?_
 intro W4 hW
 have H4 := hid (h4.letter hW)
 obtain ⟨ca, cb, cc, cd, fb, hs⟩ := H4.out.facts
 clear hW h4
 refine wp_region_pop_q (by dsimp only [List.dropLast]) (by rfl) (by rfl) (by kernel_rfl) (by kernel_rfl) (by kernel_rfl) (by kernel_rfl) ?_
 repeat (go_big_quiet_step (fail))
 refine wpQuiet_nil ?_
 intro _ hw'
 obtain ⟨n4, rfl⟩ := hw'
 go_wp2_with fail
 clear ca cb cc cd fb hs
 have h5 := H4.out.setA n4 A2
 clear H4
 refine letterW ?_
 intro W5 hW
 have H5 := hid (h5.letter hW)
 obtain ⟨ca, cb, cc, cd, fb, hs⟩ := H5.out.facts
 clear hW h5
 refine wp_region_pop_q (by dsimp only [List.dropLast]) (by rfl) (by rfl) (by kernel_rfl) (by kernel_rfl) (by kernel_rfl) (by kernel_rfl) ?_
 repeat (go_big_quiet_step (exact Calls.quiet_of_same (R3.out _)))
 refine wpQuiet_nil ?_
 intro _ hw'
 obtain ⟨n5, rfl⟩ := hw'
 go_wp2_with fail
 clear ca cb cc cd fb hs
 have h6 := H5.out.setD n5 D2
 clear H5
 refine letterW ?_
 intro W6 hW
 have H6 := hid (h6.letter hW)
 obtain ⟨ca, cb, cc, cd, fb, hs⟩ := H6.out.facts
 clear hW h6
 refine wp_region_pop_q (by dsimp only [List.dropLast]) (by rfl) (by rfl) (by kernel_rfl) (by kernel_rfl) (by kernel_rfl) (by kernel_rfl) ?_
 repeat (go_big_quiet_step (fail))
 refine wpQuiet_nil ?_
 intro _ hw'
 obtain ⟨n6, rfl⟩ := hw'
 go_wp2_with fail
 clear ca cb cc cd fb hs
 have h7 := H6.out.setC n6 C2
 clear H6
 refine letterW ?_
 intro W7 hW
 have H7 := hid (h7.letter hW)
 obtain ⟨ca, cb, cc, cd, fb, hs⟩ := H7.out.facts
 clear hW h7
 refine wp_region_pop_q (by dsimp only [List.dropLast]) (by rfl) (by rfl) (by kernel_rfl) (by kernel_rfl) (by kernel_rfl) (by kernel_rfl) ?_
 repeat (go_big_quiet_step (exact Calls.quiet_of_same (R4.out _)))
 refine wpQuiet_nil ?_
 intro _ hw'
 obtain ⟨n7, rfl⟩ := hw'
 go_wp2_with fail
 clear ca cb cc cd fb hs
 have h8 := H7.out.setB n7 B2
 clear H7
 refine bodyPost_end (results_none rfl _ _ _) rfl ⟨rfl, ?_, h8.but⟩
 rw [ES'.out, ← set4 hab hac had hbc hbd hcd A1 D1 C1 B1]
 exact h8.heap
end Go.Proofs.Ytahenngmaoellaa
