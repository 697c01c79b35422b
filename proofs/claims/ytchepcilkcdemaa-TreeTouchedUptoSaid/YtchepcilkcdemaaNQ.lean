/- All calls of a tree's nodes, of any tree. No condition. -/
import Derived.Test.YtchepcilkcdemaaB43
import Derived.Test.YtchepcilkcdemaaB44
import Derived.Test.YtchepcilkcdemaaFA
import Derived.Test.YtchepcilkcdemaaB06
set_option linter.all false
set_option maxRecDepth 100000
set_option maxHeartbeats 8000000
namespace Go.Proofs.Ytchepcilkcdemaa
open Go.ChangeShapes Go.WideShapes Go.ChangeAt Go.RowKit Go.Joins Go.Shelf Go.Maps
attribute [local go_sem] Oper.semAt_some
/-- All calls of a tree's nodes (none of a tree that may not be). -/
def TreeV.calZ (t : TreeV) (kz z1 z2 zs : List Int) : List CallS := if t.validE = 0 then (t.allC kz z1 z2 zs ((t.rowsOf zs.length).length - 1 + 1)).flatten else []
theorem TreeV.calZ_sw (t : TreeV) (a1 : Option Addr) (c1 : Nat) (a2 : Option Addr) (c2 : Nat) (a3 : Option Addr) (c3 : Nat) (kz z1 z2 zs : List Int) : (t.sw a1 c1 a2 c2 a3 c3).calZ kz z1 z2 zs = t.calZ kz z1 z2 zs := by
 unfold TreeV.calZ TreeV.allC
 rw [show (t.sw a1 c1 a2 c2 a3 c3).callsR kz z1 z2 zs = t.callsR kz z1 z2 zs from funext (TreeV.callsR_sw t a1 c1 a2 c2 a3 c3 kz z1 z2 zs)]
 rfl
/-- What both Calls answer. -/
def CalIs (t : TreeV) (kz z1 z2 zs : List Int) (w : World) (e : Ending) (w' : World) : Prop :=
 ∃ u, e = .returned (.tuple #[u, .int .i64 t.validE]) ∧ CallsO w w.heap.size w' u (t.calZ kz z1 z2 zs) ∧ Below w.heap.size w w'
theorem calls_any (t : TreeV) (kz z1 z2 zs : List Int) (v : Value) (w : World) (hl : 0 ≤ t.l ∧ t.l ≤ 4294967295) (hk : Hold w (.slice t.ka t.kl t.kc) kz) (hs : Hold w (.slice t.sa t.sl t.sc) z1) (hp : Hold w (.slice t.pa t.pl t.pc) z2) (hv : Hold w v zs) (hn : zs.length ≤ 4194304) :
  Calls Try.prog 14 #[t.val, v] w fun e w' => CalIs t kz z1 z2 zs w e w' := by
 by_cases h : t.validE = 0
 ·refine (calls_ok t kz z1 z2 zs v w ⟨h, hl, hk, hs, hp⟩ hv hn).mono ?_
  rintro e w' ⟨u, rfl, ⟨R, hR, ho⟩, hb⟩
  have hL := TreeV.leafZ_facts h hl kz z1 z2 zs
  have hT := top_rows (err_small h hn) kz z1 z2 (leafZ_rows h hl kz z1 z2 zs) hL.2.2
  rw [TreeV.topAt_one hR hT] at ho
  refine ⟨u, by rw [h], ?_, hb⟩
  unfold TreeV.calZ
  rw [if_pos h, TreeV.allC_succ, List.flatten_append, List.flatten_singleton]
  exact ho
 ·refine (calls_err t v w h).mono ?_
  rintro e w' ⟨rfl, hb⟩
  exact ⟨_, rfl, by unfold TreeV.calZ; rw [if_neg h]; exact CallsO.nil _ _ _, hb⟩
theorem flat_getD {α : Type} {d : α} : ∀ {AC : List (List α)} {r k : Nat}, r < AC.length → k < (AC.getD r []).length → (AC.take r).flatten.length + k < AC.flatten.length ∧ AC.flatten.getD ((AC.take r).flatten.length + k) d = (AC.getD r []).getD k d
 | [], r, k, h, _ => by simp at h
 | a :: ls, 0, k, _, hk => by
  have hk2 : k < a.length := hk
  rw [List.take_zero, List.flatten_nil, List.length_nil, Nat.zero_add, List.flatten_cons, List.length_append]
  refine ⟨by omega, ?_⟩
  rw [getD_app, if_pos hk2]
  rfl
 | a :: ls, r + 1, k, h, hk => by
  have hr : r < ls.length := by simpa using h
  have hk2 : k < (ls.getD r []).length := hk
  obtain ⟨h1, h2⟩ := flat_getD (d := d) hr hk2
  rw [List.take_succ_cons, List.flatten_cons, List.flatten_cons, List.length_append, List.length_append]
  refine ⟨by omega, ?_⟩
  rw [getD_app, if_neg (by omega), show a.length + (ls.take r).flatten.length + k - a.length = (ls.take r).flatten.length + k by omega, h2]
  rfl
theorem foldl_mod : ∀ (L : List Nat) (s : Nat), s < 18446744073709551616 → L.foldl (fun s n => (s + n) % 18446744073709551616) s = (s + L.sum) % 18446744073709551616
 | [], s, h => by simp [Nat.mod_eq_of_lt h]
 | n :: L, s, h => by
  simp only [List.foldl_cons, List.sum_cons]
  rw [foldl_mod L _ (Nat.mod_lt _ (by decide)), Nat.mod_add_mod, Nat.add_assoc]
theorem sumU_sum {L : List Nat} (h : L.sum < 18446744073709551616) : sumU L = L.sum := by
 unfold sumU
 rw [foldl_mod L 0 (by decide), Nat.zero_add, Nat.mod_eq_of_lt h]
/-- As many calls as shape tells. -/
theorem TreeV.calls_count {t : TreeV} (h : t.validE = 0) (hl : 0 ≤ t.l ∧ t.l ≤ 4294967295) (kz z1 z2 zs : List Int) (hn : zs.length ≤ 4194304) : (t.calZ kz z1 z2 zs).length = (t.rowsOf zs.length).sum := by
 have he := err_small h hn
 have hR := TreeV.rows_is he
 have hlen := hR.len
 have hL := TreeV.leafZ_facts h hl kz z1 z2 zs
 unfold TreeV.calZ
 rw [if_pos h, List.length_flatten]
 congr 1
 refine List.ext_getElem? fun i => ?_
 rw [List.getElem?_map]
 by_cases hi : i < (t.rowsOf zs.length).length
 ·have h2 : i < (t.allC kz z1 z2 zs ((t.rowsOf zs.length).length - 1 + 1)).length := by rw [TreeV.allC_length]; omega
  have h1 := TreeV.allC_at t kz z1 z2 zs (m := (t.rowsOf zs.length).length - 1 + 1) (i := i) (by omega)
  rw [List.getD_eq_getElem?_getD, List.getElem?_eq_getElem h2, Option.getD_some] at h1
  rw [List.getElem?_eq_getElem h2, List.getElem?_eq_getElem hi, Option.map_some, h1]
  have h3 := TreeV.lvl_rows he kz z1 z2 (leafZ_rows h hl kz z1 z2 zs) hL.2.2 i hi
  rw [TreeV.lvl_is, TreeV.rowZ_length] at h3
  unfold TreeV.callsR
  rw [TreeV.rowC_length, h3]
  unfold nth
  rw [List.getD_eq_getElem?_getD, List.getElem?_eq_getElem hi]
  rfl
 ·rw [List.getElem?_eq_none (l := t.rowsOf zs.length) (by omega), List.getElem?_eq_none (by rw [TreeV.allC_length]; omega)]
  rfl
/-- Bytes behind bytes of one's own. -/
theorem wpList_catO {ops : Array Oper} {rest : List Oper} {o : Oper} {a : Act} {Q : Exit → Act → World → Prop} {W : World} (hgd : o.guard = none) (s x : Operand)
 (ho : o.op = .call { callee := .builtin .append, args := #[s, x], argTypes := #[24, 24] }) (B : Nat) (v u : Value) (zs ys : List Int) (hs : a.eval s = v) (hown : W.ownsRow B 5 1 v zs.length (zs.map encB)) (hx : a.eval x = u) (hz : Hold W u ys) (h63 : zs.length + ys.length ≤ 140737488355328) (hB : B ≤ W.heap.size)
 (h : ∀ v' w', w'.ownsRow B 5 1 v' (zs ++ ys).length ((zs ++ ys).map encB) → Spare (fun k => v.ownBlock ≠ some k) W w' → (v'.ownBlock = v.ownBlock ∨ v'.ownBlock = some W.heap.size) → wpList Try.prog ops Q rest (a.put o.dst v') w') : wpList Try.prog ops Q (o :: rest) a W := by
 obtain ⟨i0, hi, hz0, hz1, hz2⟩ := info_parts info_u8
 refine wpList_plain hgd fun K hK => wp_append_src2 s x 24 ho B 5 i0 (.int .u8 0) 1 Try.underlying24 hi hz0 hz1 hz2 rfl v zs.length (zs.map encB) hs hown u ys.length (ys.map encB) hx hz.src (by unfold maxLen; omega) (by omega) hB fun v' w' h1 h2 h3 => hK _ _ (h v' w' ?_ (Spare.of_grown h2) h3)
 rw [List.length_append, List.map_append]
 exact h1
end Go.Proofs.Ytchepcilkcdemaa
