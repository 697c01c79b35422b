/- Bytes that are spoilt, with what stands behind them. No condition. -/
import Derived.Test.YtjogmckaakkomaaGreatB46
import Derived.ArgAppend
set_option linter.all false
set_option maxRecDepth 100000
set_option maxHeartbeats 8000000
namespace Go.Proofs.YtjogmckaakkomaaGreat
open Go.ChangeShapes Go.WideShapes Go.ChangeAt Go.RowKit Go.Joins Go.Shelf Go.Maps
open Go.Lib (hid)
attribute [local go_sem] Oper.semAt_some
/-- Bytes that are being spoilt: of block ob, or of a new one; all else stays. -/
def SpR (ob : Option Nat) (w wr : World) (v : Value) (m : Nat) : Prop :=
 Spare (fun k => ob ≠ some k) w wr ∧ ((v = .slice none 0 0 ∧ m = 0) ∨ ∃ g cap cur, v = .slice (some ⟨g, 0, none⟩) m cap ∧ wr.heap[g]? = some (.cells cur 5 (0, 0)) ∧ m ≤ cap ∧ cap ≤ cur.size ∧ cap ≤ maxLen ∧ (ob = some g ∨ w.heap.size ≤ g))
theorem cell_cur {w : World} {g : Nat} {cur : Array Value} {T : TypeId} (h : w.heap[g]? = some (.cells cur T (0, 0))) (j : Nat) : w.cell? ⟨g, j, none⟩ = cur[j]? := by
 rw [cell_of_heap h j]
theorem wpList_spoil {ops : Array Oper} {rest : List Oper} {o : Oper} {a : Act} {Q : Exit → Act → World → Prop} (hgd : o.guard = none) (s x : Operand)
  (ho : o.op = .call { callee := .builtin .append, args := #[s, x], argTypes := #[23, 23] }) {ob : Option Nat} {w W : World} {v : Value} {m : Nat} (hs : a.eval s = v) (hv : SpR ob w W v m)
  (u : Value) (hu : u.oneCell' = true) (T : TypeId) (hx : a.eval x = .slice (some ⟨W.heap.size, 0, none⟩) 1 1) (hm : m ≤ 70368744177000)
  (h : ∀ v' w', SpR ob w w' v' (m + 1) → wpList Tryz.prog ops Q rest (a.put o.dst v') w') : wpList Tryz.prog ops Q (o :: rest) a (W.alloc (.cells #[u] T)) := by
 obtain ⟨i0, hi, hz0, hz1, hz2⟩ := info_parts info_u8
 obtain ⟨hsp, hv⟩ := hv
 have hal : Spare (fun k => ob ≠ some k) w (W.alloc (.cells #[u] T)) := hsp.trans (Spare.of_below _ ((Below.refl _ _).alloc (Nat.le_refl _) _)) (fun _ _ h => h)
 have hsz : W.heap.size < (W.alloc (.cells #[u] T)).heap.size := by simp
 have hws := hsp.size
 rcases hv with ⟨rfl, rfl⟩ | ⟨g, cap, cur, rfl, h1, h2, h3, h4, h5⟩
 ·refine wpList_append_now hgd s x _ ho (W.alloc (.cells #[u] T)) _ rfl (Below.refl _ _) 5 i0 (.int .u8 0) 1 Tryz.underlying23 hi hz0 hz1 hz2 rfl _ 0 [] hs (World.ownsRow_nil _ _ _ _) _ 1 [u] hx (src_new W u T hu) (by unfold maxLen; omega) (by omega) ?_
  intro v' w' hown hb
  refine h v' w' ⟨hal.trans (Spare.of_below _ hb) (fun _ _ h => h), .inr ?_⟩
  rcases hown.2 with ⟨-, h0⟩ | ⟨g, cap, cur, rfl, k1, k2, k3, k4, k5, -⟩
  ·omega
  ·exact ⟨g, cap, cur, rfl, k2, by omega, by omega, k4, .inr (by omega)⟩
 ·have hg : g < W.heap.size := (Array.getElem?_eq_some_iff.1 h1).1
  have h1' : (W.alloc (.cells #[u] T)).heap[g]? = some (.cells cur 5 (0, 0)) := ((Below.refl W.heap.size W).alloc (Nat.le_refl _) _).block g hg |>.trans h1
  refine wpList_append_arg _ hgd s x _ ho 5 i0 (.int .u8 0) 1 1 Tryz.underlying23 hi hz0 hz1 hz2 rfl (by decide) g 0 m cap (cur.toList.take m) hs (by simp; omega) (fun j u' hj => ?_) _ 1 1 [u] hx rfl (cell_one_new W u T) (by simpa using hu) (fun hr j hj => ?_) (by unfold maxLen; omega) (by omega) (fun hr => ?_) (fun hr v' w' hown hgr => ?_)
  ·rw [Nat.zero_add, cell_cur h1']
   rw [List.getElem?_take] at hj
   split at hj
   ·simpa using hj
   ·cases hj
  ·obtain rfl : j = 0 := by simpa using hj
   rw [Nat.zero_add, Nat.mul_one, Nat.add_zero, cell_cur h1']
   refine ⟨?_, frozen_of_row _ g m _ _ h1'⟩
   rw [Array.getElem?_eq_getElem (by omega)]; rfl
  ·rw [Nat.zero_add, Nat.mul_one]
   show wpList _ _ _ _ _ ((W.alloc (.cells #[u] T)).setCell ⟨g, m, none⟩ u)
   refine h _ _ ⟨hal.trans (T := fun k => k ≠ g) ⟨rfl, rfl, rfl, by simp [World.setCell], fun k _ hk => heap_setCell_other _ _ _ _ hk⟩ (fun k hk hne e => ?_), .inr ⟨g, cap, _, rfl, heap_setCell_same _ g m cur _ u h1', hr, by simpa using h3, h4, h5⟩⟩
   subst e
   rcases h5 with h5 | h5
   ·exact hne h5
   ·omega
  ·refine h v' w' ⟨hal.trans (Spare.of_grown hgr) (fun _ _ _ e => by cases e), .inr ?_⟩
   rcases hown.2 with ⟨-, h0⟩ | ⟨g', cap', cur', rfl, k1, k2, k3, k4, k5, -⟩
   ·omega
   ·exact ⟨g', cap', cur', rfl, k2, by omega, by omega, k4, .inr (by omega)⟩
theorem spoil_ok (zs : List Int) (v : Value) (B : Nat) (w : World) (h : OwnB B w v zs) (hn : zs.length ≤ 70368744176000) :
  Calls Tryz.prog 21 #[v] w fun e w' => e = .returned (.tuple #[]) ∧ Spare (fun k => v.ownBlock ≠ some k) w w' := by
 obtain ⟨ob, hob⟩ : ∃ ob, v.ownBlock = ob := ⟨_, rfl⟩
 rw [hob]
 have hst : SpR ob w w v zs.length ∧ ∀ g cur, ob = some g → w.heap[g]? = some (.cells cur 5 (0, 0)) → ∀ j, j < zs.length → ∃ z, cur[j]? = some (.int .u8 z) := by
  rcases h.2 with ⟨rfl, rfl⟩ | ⟨g, cap, cur, rfl, h1, h2, h3, h4, h5, h6⟩
  ·exact ⟨⟨Spare.refl _ _, .inl ⟨rfl, rfl⟩⟩, fun g cur e => by rw [← hob] at e; cases e⟩
  ·refine ⟨⟨Spare.refl _ _, .inr ⟨g, cap, cur, rfl, h2, h3, h4, h5, .inl hob.symm⟩⟩, fun g' cur' e h' j hj => ?_⟩
   rw [← hob] at e
   simp only [Value.ownBlock, Option.some.injEq] at e
   subst e
   rw [h2] at h'
   simp only [Option.some.injEq, Obj.cells.injEq] at h'
   obtain ⟨rfl, -, -⟩ := h'
   have := congrArg (fun l : List Value => l[j]?) h6
   simp only [List.getElem?_take, hj, if_true, List.getElem?_map, List.getElem?_eq_getElem hj, Option.map_some] at this
   exact ⟨zs[j], by simpa [encB] using this⟩
 obtain ⟨a, c, rfl, -, -⟩ := h.hold.slice
 clear h
 generalize zs.length = n at *
 have HOB := hid hob
 have HST := hid hst
 have hn2 : (n : Int) ≤ 9223372036854775807 := by omega
 clear hob hst
 go_enter Tryz.func21, Tryz.ntmps21
 go_wp2_with fail
 go_loopw [2] (fun i wr => ∃ k : Nat, i = .int .i64 (k : Nat) ∧ k ≤ n ∧ SpR ob w wr (.slice a n c) n ∧ ∀ g cur, ob = some g → wr.heap[g]? = some (.cells cur 5 (0, 0)) → ∀ j, j < n → ∃ z, cur[j]? = some (.int .u8 z)) (fun i _ => n - (intOf i).toNat)
 case atStart => exact ⟨0, rfl, Nat.zero_le _, HST.out.1, HST.out.2⟩
 case round =>
  obtain ⟨k, rfl, hk, hs, hx⟩ := hrel
  by_cases hlt : k < n
  case pos =>
   have hlt2 : (k : Int) < n := by omega
   have hs2 := hs
   obtain ⟨hsp, hv⟩ := hs
   rcases hv with ⟨e, e2⟩ | ⟨g, cap, cur, e, h1, h2, h3, h4, h5⟩
   ·omega
   simp only [Value.slice.injEq] at e
   obtain ⟨rfl, -, rfl⟩ := e
   have hob : ob = some g := HOB.out.symm
   obtain ⟨z, hz⟩ := hx g cur hob h1 k hlt
   have c0 : wr.cell? ⟨g, k, none⟩ = some (.int .u8 z) := by rw [cell_cur h1]; exact hz
   have f0 := frozen_of_row wr g k _ _ h1
   have g0 : g < wr.heap.size := (Array.getElem?_eq_some_iff.1 h1).1
   have H1 := hid h1
   have HX := hid hx
   have HSP := hid hsp
   have HOG := hid hob
   clear h1 hx hsp hob hs2 h5 hz
   go_wp2_with fail
   refine ⟨⟨k + 1, rfl, by omega, ⟨HSP.out.trans (T := fun k => k ≠ g) ⟨rfl, rfl, rfl, by simp [World.setCell], fun k _ hk => heap_setCell_other _ _ _ _ hk⟩ (fun k hk hs e => hs (by rw [e]; exact HOG.out)), .inr ⟨g, c, _, rfl, heap_setCell_same _ g k cur _ _ H1.out, h2, by simpa using h3, h4, .inl HOG.out⟩⟩, fun g' cur' e h' j hj => ?_⟩, by simp [intOf]; omega⟩
   rw [HOG.out] at e
   obtain rfl := Option.some.inj e
   rw [heap_setCell_same _ g k cur _ _ H1.out] at h'
   simp only [Option.some.injEq, Obj.cells.injEq] at h'
   obtain ⟨rfl, -, -⟩ := h'
   rw [Array.getElem?_setIfInBounds]
   by_cases hjk : k = j
   ·subst hjk
    rw [if_pos rfl, if_pos (by omega)]
    exact ⟨_, rfl⟩
   ·rw [if_neg hjk]; exact HX.out g cur HOG.out H1.out j hj
  obtain rfl : k = n := by omega
  have HS := hid hs
  clear hs hx
  go_wp2_with fail
  go_loopw [0, 3] (fun s i wr => ∃ k' : Nat, i = .int .i64 (k' : Nat) ∧ k' ≤ 70 ∧ SpR ob w wr s (k + k')) (fun _ i _ => 70 - (intOf i).toNat)
  case atStart => exact ⟨0, rfl, by omega, HS.out⟩
  case round =>
   obtain ⟨m, rfl, hm, hs⟩ := hrel
   by_cases hlt : m < 70
   case pos =>
    have HS2 := hid hs
    obtain ⟨a2, n2, c2, rfl⟩ : ∃ a2 n2 c2, u0 = .slice a2 n2 c2 := by
     rcases hs.2 with ⟨rfl, -⟩ | ⟨g, cap, cur, rfl, -⟩
     ·exact ⟨_, _, _, rfl⟩
     ·exact ⟨_, _, _, rfl⟩
    have hw2 : IntKind.i64.wrap (17 + (m : Int)) = 17 + (m : Int) := by rw [IntKind.wrap_i64] <;> omega
    have hw3 : IntKind.u8.wrap (17 + (m : Int)) = 17 + (m : Int) := by rw [IntKind.wrap_u8] <;> omega
    clear hs
    go_wp2_with (at_builtin; refine wpList_spoil rfl _ _ rfl rfl HS2.out _ rfl _ rfl (by omega) ?_; intro v' w' hs')
    exact ⟨⟨m + 1, rfl, by omega, hs'⟩, by simp [intOf]; omega⟩
   obtain rfl : m = 70 := by omega
   have HSF := hid hs.1
   clear hs
   go_wp2
   exact bodyPost_end (results_none rfl _ _ _) rfl ⟨rfl, HSF.out⟩
end Go.Proofs.YtjogmckaakkomaaGreat
