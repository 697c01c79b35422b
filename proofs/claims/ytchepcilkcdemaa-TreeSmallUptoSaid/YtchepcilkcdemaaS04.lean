/- The walks of the reference's Valid; Valid on both sides, of every tree. No condition. -/
import Derived.Test.YtchepcilkcdemaaS03
import Derived.OpenShut
import Derived.Deep.Fields
import Derived.Lib.SmallJoins
import Derived.Maps.AppendAt
set_option linter.all false
set_option maxRecDepth 100000
set_option maxHeartbeats 8000000
namespace Go.Proofs.Ytchepcilkcdemaa
open Go.ChangeShapes Go.WideShapes Go.ChangeAt Go.RowKit
open Go.Lib (hid)
/-- shape.Valid, of every tree. -/
theorem valid_any (t : TreeV) (w : World) : Calls Try.prog 27 #[t.val] w fun e w' => e = .returned (.int .i64 t.validE) ∧ Below w.heap.size w w' := by
 by_cases h1 : t.k = 1
 ·exact valid_1 t h1 w
 by_cases h2 : t.k = 2
 ·exact valid_2 t h2 w
 have e : t.validE = 1 := by simp [TreeV.validE, h1, h2]
 rw [e]; exact valid_no t h1 h2 w
end Go.Proofs.Ytchepcilkcdemaa
namespace Go.Proofs.Ytchepcilkcdemaa
open Go.ChangeShapes Go.WideShapes Go.ChangeAt Go.RowKit Go.Joins Go.Deep
open Go.Lib (hid)
/-- A list of bytes in memory, as a slice that came in: its bytes are zs (all that lies up to its length). -/
def ByteSl (w : World) (a : Option Addr) (len cap : Nat) (zs : List Int) : Prop :=
 len ≤ cap ∧ cap ≤ maxLen ∧ zs.length = len ∧ (∀ z ∈ zs, 0 ≤ z ∧ z ≤ 255) ∧
  (len = 0 ∨ ∃ b off, a = some ⟨b, off, none⟩ ∧ b < w.heap.size ∧ ∀ i, i < len → w.cell? ⟨b, off + i, none⟩ = some (.int .u8 (zs.getD i 0)))
section
variable {H : Type} {enc : TypeId × Value → H} {P : Program} {w : World} {base : Nat} {spare : Nat → Bool} {held : Bool}
theorem byteSl_open {t e : TypeId} {fuel : Nat} {cs : List Value} {x : DataW H × List MemPlace} (ht : P.underlying t = some (.slice e)) (he : P.underlying e = some (.int .u8)) (hc : P.cellsOf e = 1)
  (h : DataW.trod enc P w base (fun _ => true) held fuel t cs = some x) (hlt : ∀ p ∈ x.2, p.block < w.heap.size) :
  ∃ a len cap zs, cs = [.slice a len cap] ∧ ByteSl w a len cap zs := by
 rcases open_ints ht he hc h with ⟨hcs, hx⟩ | ⟨a, len, cap, zs, hcs, hb, hl, hm, hz, hx, hcell, hwz⟩
 ·exact ⟨_, _, _, [], hcs, Nat.le_refl _, by unfold maxLen; omega, rfl, by simp, .inl rfl⟩
 ·refine ⟨some a, len, cap, zs.take len, hcs, hl, hm, ?_, ?_, ?_⟩
  ·simp at hz ⊢; omega
  ·intro z hzm
   exact bounds_u8 (hwz z (List.mem_of_mem_take hzm))
  ·by_cases h0 : len = 0
   ·exact .inl h0
   ·simp at hz
    obtain ⟨b, off, rfl, hc2⟩ := ints_at hcell (by omega)
    refine .inr ⟨b, off, rfl, ?_, ?_⟩
    ·have h1 : MemPlace.cell b off ∈ x.2 := by
      rw [hx]
      simp only [MemPlace.row]
      exact List.mem_map.2 ⟨0, by simp; omega, by simp⟩
     exact hlt _ h1
    ·intro i hi
     rw [hc2 i (by omega)]
     simp [hi]
end
/-- What is known of a tree that came in. -/
structure TreeIs (w : World) (t : TreeV) (kz sz pz : List Int) : Prop where
 k : -9223372036854775808 ≤ t.k ∧ t.k ≤ 9223372036854775807
 d : -9223372036854775808 ≤ t.d ∧ t.d ≤ 9223372036854775807
 f : -9223372036854775808 ≤ t.f ∧ t.f ≤ 9223372036854775807
 p : -9223372036854775808 ≤ t.p ∧ t.p ≤ 9223372036854775807
 l : 0 ≤ t.l ∧ t.l ≤ 4294967295
 i : -9223372036854775808 ≤ t.i ∧ t.i ≤ 9223372036854775807
 key : ByteSl w t.ka t.kl t.kc kz
 salt : ByteSl w t.sa t.sl t.sc sz
 pers : ByteSl w t.pa t.pl t.pc pz
theorem list9 {α : Type} {l : List α} (h : l.length = 9) : ∃ a b c d e f g i j, l = [a, b, c, d, e, f, g, i, j] := by
 match l, h with
 | [a, b, c, d, e, f, g, i, j], _ => exact ⟨a, b, c, d, e, f, g, i, j, rfl⟩
theorem cells_kind : Try.prog.cellsOf 22 = 1 := by kernel_rfl
theorem cells_int : Try.prog.cellsOf 3 = 1 := by kernel_rfl
theorem cells_u32 : Try.prog.cellsOf 23 = 1 := by kernel_rfl
theorem cells_bytes : Try.prog.cellsOf 24 = 1 := by kernel_rfl
theorem cells_u8 : Try.prog.cellsOf 5 = 1 := by kernel_rfl
theorem cells_tree : Try.prog.cellsOf 26 = 9 := by kernel_rfl
theorem trod_tree {H : Type} {enc : TypeId × Value → H} {w : World} {base fuel : Nat} {held : Bool} {cs : List Value} {x : DataW H × List MemPlace}
  (h : DataW.trod enc Try.prog w base (fun _ => true) held fuel 26 cs = some x) (hlt : ∀ p ∈ x.2, p.block < w.heap.size) :
  ∃ t kz sz pz, TreeV.val t = .agg cs.toArray ∧ TreeIs w t kz sz pz := by
 obtain ⟨xs, n, _, hx, hlen, hxl, hf⟩ := DataW.trod_struct Try.underlying26 h
 rw [cells_tree] at hlen
 obtain ⟨c0, c1, c2, c3, c4, c5, c6, c7, c8, rfl⟩ := list9 hlen
 obtain ⟨y0, y1, y2, y3, y4, y5, y6, y7, y8, rfl⟩ := list9 (l := xs) (by rw [hxl]; rfl)
 have g0 : DataW.trod enc Try.prog w base (fun _ => true) held n 22 [c0] = some y0 := by
  have g : DataW.trod enc Try.prog w base (fun _ => true) held n 22 (([c0, c1, c2, c3, c4, c5, c6, c7, c8].drop 0).take (Try.prog.cellsOf 22)) = some y0 := hf 0 _ rfl
  rw [cells_kind] at g
  exact g
 have g1 : DataW.trod enc Try.prog w base (fun _ => true) held n 3 [c1] = some y1 := by
  have g : DataW.trod enc Try.prog w base (fun _ => true) held n 3 (([c0, c1, c2, c3, c4, c5, c6, c7, c8].drop 1).take (Try.prog.cellsOf 3)) = some y1 := hf 1 _ rfl
  rw [cells_int] at g
  exact g
 have g2 : DataW.trod enc Try.prog w base (fun _ => true) held n 3 [c2] = some y2 := by
  have g : DataW.trod enc Try.prog w base (fun _ => true) held n 3 (([c0, c1, c2, c3, c4, c5, c6, c7, c8].drop 2).take (Try.prog.cellsOf 3)) = some y2 := hf 2 _ rfl
  rw [cells_int] at g
  exact g
 have g3 : DataW.trod enc Try.prog w base (fun _ => true) held n 3 [c3] = some y3 := by
  have g : DataW.trod enc Try.prog w base (fun _ => true) held n 3 (([c0, c1, c2, c3, c4, c5, c6, c7, c8].drop 3).take (Try.prog.cellsOf 3)) = some y3 := hf 3 _ rfl
  rw [cells_int] at g
  exact g
 have g4 : DataW.trod enc Try.prog w base (fun _ => true) held n 23 [c4] = some y4 := by
  have g : DataW.trod enc Try.prog w base (fun _ => true) held n 23 (([c0, c1, c2, c3, c4, c5, c6, c7, c8].drop 4).take (Try.prog.cellsOf 23)) = some y4 := hf 4 _ rfl
  rw [cells_u32] at g
  exact g
 have g5 : DataW.trod enc Try.prog w base (fun _ => true) held n 3 [c5] = some y5 := by
  have g : DataW.trod enc Try.prog w base (fun _ => true) held n 3 (([c0, c1, c2, c3, c4, c5, c6, c7, c8].drop 5).take (Try.prog.cellsOf 3)) = some y5 := hf 5 _ rfl
  rw [cells_int] at g
  exact g
 have g6 : DataW.trod enc Try.prog w base (fun _ => true) held n 24 [c6] = some y6 := by
  have g : DataW.trod enc Try.prog w base (fun _ => true) held n 24 (([c0, c1, c2, c3, c4, c5, c6, c7, c8].drop 6).take (Try.prog.cellsOf 24)) = some y6 := hf 6 _ rfl
  rw [cells_bytes] at g
  exact g
 have g7 : DataW.trod enc Try.prog w base (fun _ => true) held n 24 [c7] = some y7 := by
  have g : DataW.trod enc Try.prog w base (fun _ => true) held n 24 (([c0, c1, c2, c3, c4, c5, c6, c7, c8].drop 7).take (Try.prog.cellsOf 24)) = some y7 := hf 7 _ rfl
  rw [cells_bytes] at g
  exact g
 have g8 : DataW.trod enc Try.prog w base (fun _ => true) held n 24 [c8] = some y8 := by
  have g : DataW.trod enc Try.prog w base (fun _ => true) held n 24 (([c0, c1, c2, c3, c4, c5, c6, c7, c8].drop 8).take (Try.prog.cellsOf 24)) = some y8 := hf 8 _ rfl
  rw [cells_bytes] at g
  exact g
 clear hf
 obtain ⟨k, e0, -, wk⟩ := DataW.trod_int Try.underlying22 g0
 obtain ⟨d, e1, -, wd⟩ := DataW.trod_int Try.underlying3 g1
 obtain ⟨f, e2, -, wf⟩ := DataW.trod_int Try.underlying3 g2
 obtain ⟨p, e3, -, wp⟩ := DataW.trod_int Try.underlying3 g3
 obtain ⟨l, e4, -, wl⟩ := DataW.trod_int Try.underlying23 g4
 obtain ⟨i, e5, -, wi⟩ := DataW.trod_int Try.underlying3 g5
 have hp : ∀ y ∈ [y0, y1, y2, y3, y4, y5, y6, y7, y8], ∀ p ∈ y.2, p.block < w.heap.size := fun y hy p hp => hlt p (by rw [hx]; exact List.mem_flatMap.2 ⟨y, hy, hp⟩)
 obtain ⟨ka, kl, kc, kz, e6, hk⟩ := byteSl_open Try.underlying24 Try.underlying5 cells_u8 g6 (hp y6 (by simp))
 obtain ⟨sa, sl, sc, sz, e7, hs⟩ := byteSl_open Try.underlying24 Try.underlying5 cells_u8 g7 (hp y7 (by simp))
 obtain ⟨pa, pl, pc, pz, e8, hq⟩ := byteSl_open Try.underlying24 Try.underlying5 cells_u8 g8 (hp y8 (by simp))
 simp only [List.cons.injEq, and_true] at e0 e1 e2 e3 e4 e5 e6 e7 e8
 subst e0 e1 e2 e3 e4 e5 e6 e7 e8
 exact ⟨⟨k, d, f, p, l, i, ka, kl, kc, sa, sl, sc, pa, pl, pc⟩, kz, sz, pz, rfl, ⟨bounds_i64 wk, bounds_i64 wd, bounds_i64 wf, bounds_i64 wp, bounds_u32 wl, bounds_i64 wi, hk, hs, hq⟩⟩
theorem open_tree {H : Type} {enc : TypeId × Value → H} {w : World} {base b0 : Nat} {r : Reach} {held : Bool} {v : Value} {d : DataW H} {ps : List MemPlace}
  (hv : Value.okWide Try.prog w r b0 26 v) (h : DataW.Trod enc Try.prog w base (fun _ => true) held 26 v d ps) (hlt : ∀ p ∈ ps, p.block < w.heap.size) :
  ∃ t kz sz pz, v = TreeV.val t ∧ TreeIs w t kz sz pz := by
 obtain ⟨cs, rfl, hsz⟩ := okWide_struct Try.underlying26 hv
 obtain ⟨fuel, hf⟩ := h
 obtain ⟨t, kz, sz, pz, e, ht⟩ := trod_tree hf hlt
 exact ⟨t, kz, sz, pz, by rw [e]; rfl, ht⟩
theorem open_i64 {H : Type} {enc : TypeId × Value → H} {w : World} {base b0 : Nat} {r : Reach} {spare : Nat → Bool} {held : Bool} {v : Value} {d : DataW H} {ps : List MemPlace}
  (hv : Value.okWide Try.prog w r b0 3 v) (h : DataW.Trod enc Try.prog w base spare held 3 v d ps) :
  ∃ n, v = .int .i64 n ∧ -9223372036854775808 ≤ n ∧ n ≤ 9223372036854775807 := by
 obtain ⟨x, rfl, rfl, rfl, wx⟩ := open_int Try.underlying3 hv h
 exact ⟨x, rfl, bounds_i64 wx⟩
theorem open_u64 {H : Type} {enc : TypeId × Value → H} {w : World} {base b0 : Nat} {r : Reach} {spare : Nat → Bool} {held : Bool} {v : Value} {d : DataW H} {ps : List MemPlace}
  (hv : Value.okWide Try.prog w r b0 36 v) (h : DataW.Trod enc Try.prog w base spare held 36 v d ps) :
  ∃ n, v = .int .u64 n ∧ 0 ≤ n ∧ n ≤ 18446744073709551615 := by
 obtain ⟨x, rfl, rfl, rfl, wx⟩ := open_int Try.underlying36 hv h
 exact ⟨x, rfl, bounds_u64 wx⟩
end Go.Proofs.Ytchepcilkcdemaa
namespace Go.Proofs.Ytchepcilkcdemaa
open Go.ChangeShapes Go.WideShapes Go.ChangeAt Go.RowKit
open Go.Lib (hid)
/-! ### Plain numbers -/
/-- The k-th of a list, under a name that the walk leaves alone. -/
def nth (l : List Nat) (k : Nat) : Nat := l.getD k 0
theorem nth_cons_zero (a : Nat) (l : List Nat) : nth (a :: l) 0 = a := rfl
theorem nth_cons_succ (a : Nat) (l : List Nat) (k : Nat) : nth (a :: l) (k + 1) = nth l k := rfl
/-- n by d, rounded up. -/
def cdiv (n d : Nat) : Nat := if n % d = 0 then n / d else n / d + 1
theorem cdiv_le {n d : Nat} (hd : 1 ≤ d) : cdiv n d ≤ n := by
  unfold cdiv
  split
  · exact Nat.div_le_self _ _
  · rename_i h
    have h2 : 2 ≤ d := by
      rcases Nat.lt_or_ge d 2 with h' | h'
      · have : d = 1 := by omega
        subst this; simp [Nat.mod_one] at h
      · exact h'
    have hn : 0 < n := by
      rcases Nat.eq_zero_or_pos n with h' | h'
      · subst h'; simp at h
      · exact h'
    have h3 := Nat.div_lt_self hn h2
    exact h3
theorem cdiv_pos {n d : Nat} (hn : 1 ≤ n) : 1 ≤ cdiv n d := by
  unfold cdiv
  split
  · rename_i h
    have := Nat.div_add_mod n d
    rw [h] at this
    rcases Nat.eq_zero_or_pos (n / d) with h' | h'
    · rw [h'] at this; simp at this; omega
    · exact h'
  · exact Nat.le_add_left _ _
/-- How many leaves. -/
def lvs (total l : Nat) : Nat := max 1 (cdiv total l)
/-- The rows above row - 1, which has n nodes. -/
def rowsFrom (f p : Nat) : Nat → Nat → Nat → List Nat
  | 0, _, _ => []
  | fuel + 1, row, n => (if f = 0 ∨ row = p - 1 then 1 else cdiv n f) :: (if (if f = 0 ∨ row = p - 1 then 1 else cdiv n f) = 1 then [] else rowsFrom f p fuel (row + 1) (if f = 0 ∨ row = p - 1 then 1 else cdiv n f))
/-- All rows' numbers. -/
def rowsL (f p n : Nat) : List Nat := n :: rowsFrom f p p 1 n
def pairsFrom : Nat → List Nat → List (Nat × Nat)
  | _, [] => []
  | r, n :: l => (r, n) :: pairsFrom (r + 1) l
theorem pairsFrom_length : ∀ (r : Nat) (l : List Nat), (pairsFrom r l).length = l.length
  | _, [] => rfl
  | r, n :: l => by simp [pairsFrom, pairsFrom_length (r + 1) l]
theorem rowsFrom_length (f p : Nat) : ∀ (fuel row n : Nat), (rowsFrom f p fuel row n).length ≤ fuel
  | 0, _, _ => by simp [rowsFrom]
  | fuel + 1, row, n => by
    simp only [rowsFrom, List.length_cons]
    generalize (if f = 0 ∨ row = p - 1 then 1 else cdiv n f) = m
    have := rowsFrom_length f p fuel (row + 1) m
    by_cases h : m = 1
    · simp [h]
    · simp only [h, if_false]; omega
def TreeV.ln (t : TreeV) : Nat := t.l.toNat
def TreeV.fn (t : TreeV) : Nat := t.f.toNat
def TreeV.pn (t : TreeV) : Nat := t.p.toNat
/-- The error that comes first, of a tree and a length. -/
def TreeV.err (t : TreeV) (total : Nat) : Int := if t.validE ≠ 0 then t.validE else if t.k = 2 ∧ 281474976710656 < cdiv total t.ln then 2 else 0
theorem TreeV.valid_facts {t : TreeV} (h : t.validE = 0) : (t.k = 1 ∨ t.k = 2) ∧ 1 ≤ t.d ∧ t.d ≤ sizeK t.k ∧ 1 ≤ t.i ∧ t.i ≤ sizeK t.k ∧ (t.f = 0 ∨ 2 ≤ t.f ∧ t.f ≤ 255) ∧ 2 ≤ t.p ∧ t.p ≤ 255 ∧ t.l ≠ 0 ∧
    (t.kl : Int) ≤ sizeK t.k ∧ ((t.sl : Int) = 0 ∨ (t.sl : Int) = saltK t.k) ∧ ((t.pl : Int) = 0 ∨ (t.pl : Int) = saltK t.k) := by
  unfold TreeV.validE at h
  split at h
  · cases h
  · split at h
    · cases h
    · split at h
      · cases h
      · split at h
        · cases h
        · split at h
          · cases h
          · refine ⟨by omega, by omega, by omega, by omega, by omega, by omega, by omega, by omega, by omega, by omega, ?_, ?_⟩ <;> omega
theorem TreeV.err_valid {t : TreeV} {total : Nat} (h : t.err total = 0) : t.validE = 0 := by
  unfold TreeV.err at h
  split at h
  · omega
  · omega
/-! ### The walks -/
theorem ceil_any (n d : Nat) (hn : (n : Int) ≤ 18446744073709551615) (hd : 1 ≤ d) (hd2 : (d : Int) ≤ 18446744073709551615) (w : World) :
    Calls Try.prog 50 #[.int .u64 n, .int .u64 d] w fun e w' => e = .returned (.int .u64 (cdiv n d)) ∧ w = w' := by
  have hdn := cdiv_le (n := n) hd
  have hd1 : (1 : Int) ≤ d := by omega
  have hd0 : ((d : Int) == 0) = false := by rw [beq_eq_false_iff_ne]; omega
  have hq : ((n / d : Nat) : Int) = (n : Int) / (d : Int) := Int.natCast_ediv n d
  have hm : ((n % d : Nat) : Int) = (n : Int) % (d : Int) := Int.natCast_emod n d
  have hq2 := Nat.div_le_self n d
  by_cases h : n % d = 0
  · have e1 : ((n : Int) % (d : Int) != 0) = false := by
      rw [bne_eq_false_iff_eq, ← hm, h]; rfl
    have e2 : (cdiv n d : Int) = (n : Int) / (d : Int) := by simp [cdiv, h]
    have e3 : (n : Int) / (d : Int) ≤ 18446744073709551615 := by rw [← hq]; omega
    have e4 : 0 ≤ (n : Int) / (d : Int) := by rw [← hq]; exact Int.natCast_nonneg _
    have E2 := hid e2
    clear e2 hq hm
    go_enter Try.func50, Try.ntmps50
    go_wp2
    go_ret
    exact ⟨by rw [E2.out]; rfl, rfl⟩
  · have e1 : ((n : Int) % (d : Int) != 0) = true := by
      rw [bne_iff_ne, ← hm]; intro h'; exact h (by exact_mod_cast h')
    have e2 : (cdiv n d : Int) = (n : Int) / (d : Int) + 1 := by simp [cdiv, h]
    have e3 : (n : Int) / (d : Int) + 1 ≤ 18446744073709551615 := by rw [← hq]; have e5 : cdiv n d = n / d + 1 := by simp [cdiv, h]
                                                                     omega
    have e4 : 0 ≤ (n : Int) / (d : Int) := by rw [← hq]; exact Int.natCast_nonneg _
    have E2 := hid e2
    clear e2 hq hm
    go_enter Try.func50, Try.ntmps50
    go_wp2
    go_ret
    exact ⟨by rw [E2.out]; rfl, rfl⟩
theorem u64_of_u32 (l : Int) (h0 : 0 ≤ l) : l = ((l.toNat : Nat) : Int) := by omega
/-- What lay below a heap's size reads as it did. -/
theorem bcell {W w1 : World} (hb : Below W.heap.size W w1) : (∀ b o, b < W.heap.size → w1.cell? ⟨b, o, none⟩ = W.cell? ⟨b, o, none⟩) ∧ (∀ b o, b < W.heap.size → w1.frozen? ⟨b, o, none⟩ = W.frozen? ⟨b, o, none⟩) :=
  ⟨fun b o h => hb.cell (p := ⟨b, o, none⟩) h, fun b o h => hb.frozen (p := ⟨b, o, none⟩) h⟩
/-- shape.valid. -/
theorem svalid_any (t : TreeV) (hl : 0 ≤ t.l ∧ t.l ≤ 4294967295) (total : Nat) (ht : (total : Int) ≤ 18446744073709551615) (w : World) :
    Calls Try.prog 34 #[t.val, .int .u64 total] w fun e w' => e = .returned (.int .i64 (t.err total)) ∧ Below w.heap.size w w' := by
  by_cases h0 : t.validE = 0
  · have hv := TreeV.valid_facts h0
    have H0 := hid h0
    obtain ⟨-, -, -, -, -, -, -, -, hl0, -, -, -⟩ := hv
    have hl1 : 1 ≤ t.ln := by unfold TreeV.ln; omega
    have hl2 : (t.ln : Int) ≤ 18446744073709551615 := by unfold TreeV.ln; omega
    have HL := hid (show t.l = (t.ln : Int) by unfold TreeV.ln; omega)
    by_cases hk : t.k = 2
    · have ek : (t.k == 2) = true := by simpa using hk
      have HE : Hid (t.err total = if 281474976710656 < cdiv total t.ln then 2 else 0) := by show _ = _; simp [TreeV.err, h0, hk]
      clear hk hl0 h0
      unfold TreeV.val
      go_enter Try.func34, Try.ntmps34
      go_wp2_with fail
      refine (valid_any t _).mono ?_; rintro e w1 ⟨rfl, hb1⟩
      obtain ⟨hc, -⟩ := bcell hb1
      rw [H0.out]
      go_wp2_with (go_at_call 50; rw [HL.out]; refine (ceil_any total t.ln ht hl1 hl2 _).mono ?_; rintro e w2 ⟨rfl, rfl⟩)
      all_goals go_ret
      all_goals refine ⟨ret_int (by rw [HE.out]; first | rw [if_pos (by omega)] | rw [if_neg (by omega)]), ?_⟩
      all_goals exact (Below.alloc (Below.refl _ _) (Nat.le_refl _) _).trans (hb1.mono (by simp))
    · have ek : (t.k == 2) = false := by simpa using hk
      have HE : Hid (t.err total = 0) := by show _ = _; simp [TreeV.err, h0, hk]
      clear hk hl0 h0
      unfold TreeV.val
      go_enter Try.func34, Try.ntmps34
      go_wp2_with fail
      refine (valid_any t _).mono ?_; rintro e w1 ⟨rfl, hb1⟩
      obtain ⟨hc, -⟩ := bcell hb1
      rw [H0.out]
      go_wp2
      go_ret
      exact ⟨ret_int (by rw [HE.out]), (Below.alloc (Below.refl _ _) (Nat.le_refl _) _).trans (hb1.mono (by simp))⟩
  · have e1 : (t.validE != 0) = true := by rw [bne_iff_ne]; exact h0
    have HE : Hid (t.err total = t.validE) := by show _ = _; simp [TreeV.err, h0]
    clear h0
    unfold TreeV.val
    go_enter Try.func34, Try.ntmps34
    go_wp2_with fail
    refine (valid_any t _).mono ?_; rintro e w1 ⟨rfl, hb1⟩
    go_wp2
    go_ret
    exact ⟨ret_int (by rw [HE.out]), (Below.alloc (Below.refl _ _) (Nat.le_refl _) _).trans (hb1.mono (by simp))⟩
theorem below_alloc_then {w w1 : World} (o : Obj) (hb : Below (w.alloc o).heap.size (w.alloc o) w1) : Below w.heap.size w w1 :=
  (Below.alloc (Below.refl _ _) (Nat.le_refl _) o).trans (hb.mono (by simp))
theorem ret_t2 {k : IntKind} {a b : Int} {v : Value} (h : a = b) : Ending.returned (.tuple #[.int k a, v]) = .returned (.tuple #[.int k b, v]) := by rw [h]
theorem TreeV.ok_facts {t : TreeV} {total : Nat} (hl : 0 ≤ t.l ∧ t.l ≤ 4294967295) (h : t.err total = 0) : 1 ≤ t.ln ∧ (t.ln : Int) ≤ 4294967295 ∧ t.l = (t.ln : Int) ∧ t.validE = 0 := by
  have h0 := TreeV.err_valid h
  have hv := TreeV.valid_facts h0
  unfold TreeV.ln
  omega
theorem lvs_le (total l : Nat) (hl : 1 ≤ l) (ht : (total : Int) ≤ 18446744073709551615) : (lvs total l : Int) ≤ 18446744073709551615 := by
  have := cdiv_le (n := total) hl
  unfold lvs
  omega
theorem shLeaves_err (t : TreeV) (hl : 0 ≤ t.l ∧ t.l ≤ 4294967295) (total : Nat) (ht : (total : Int) ≤ 18446744073709551615) (h : t.err total ≠ 0) (w : World) :
    Calls Try.prog 31 #[t.val, .int .u64 total] w fun e w' => e = .returned (.tuple #[.int .u64 0, .int .i64 (t.err total)]) ∧ Below w.heap.size w w' := by
  have e1 : (t.err total != 0) = true := by rw [bne_iff_ne]; exact h
  clear h
  unfold TreeV.val
  go_enter Try.func31, Try.ntmps31
  go_wp2_with fail
  refine (svalid_any t hl total ht _).mono ?_; rintro e w1 ⟨rfl, hb1⟩
  go_wp2
  go_ret2
  exact ⟨rfl, below_alloc_then _ hb1⟩
theorem shLeaves_ok (t : TreeV) (hl : 0 ≤ t.l ∧ t.l ≤ 4294967295) (total : Nat) (ht : (total : Int) ≤ 18446744073709551615) (h : t.err total = 0) (w : World) :
    Calls Try.prog 31 #[t.val, .int .u64 total] w fun e w' => e = .returned (.tuple #[.int .u64 (lvs total t.ln), .int .i64 0]) ∧ Below w.heap.size w w' := by
  obtain ⟨hl1, hl2, HL0, -⟩ := TreeV.ok_facts hl h
  have HL := hid HL0
  clear HL0
  have hl3 : (t.ln : Int) ≤ 18446744073709551615 := by omega
  have hm : Hid ((lvs total t.ln : Int) = max 1 (cdiv total t.ln : Int)) := by show _ = _; unfold lvs; omega
  unfold TreeV.val
  go_enter Try.func31, Try.ntmps31
  have H := hid h
  clear h
  go_wp2_with fail
  refine (svalid_any t hl total ht _).mono ?_; rintro e w1 ⟨rfl, hb1⟩
  rw [H.out]
  obtain ⟨hc, -⟩ := bcell hb1
  go_wp2_with (go_at_call 50; rw [HL.out]; refine (ceil_any total t.ln ht hl1 hl3 _).mono ?_; rintro e w2 ⟨rfl, rfl⟩)
  all_goals go_ret2
  all_goals exact ⟨ret_t2 (by rw [hm.out]; omega), below_alloc_then _ hb1⟩
end Go.Proofs.Ytchepcilkcdemaa
namespace Go.Proofs.Ytchepcilkcdemaa
open Go.ChangeShapes Go.WideShapes Go.ChangeAt Go.RowKit Go.Joins Go.Maps
open Go.Lib (hid)
def encU (n : Nat) : Value := .int .u64 n
theorem info_u64 : (Try.prog.info? 36).map (fun i => (i.zero, i.size, i.bytes)) = some (some (.int .u64 0), 1, 8) := by kernel_rfl
theorem rowsFrom_stop {f p r m fuel : Nat} (hf : 1 ≤ fuel) (h : f = 0 ∨ r = p - 1) : rowsFrom f p fuel r m = [1] := by
  obtain ⟨k, rfl⟩ : ∃ k, fuel = k + 1 := ⟨fuel - 1, by omega⟩
  simp [rowsFrom, h]
theorem rowsFrom_one {f p r m fuel : Nat} (hf : 1 ≤ fuel) (h : ¬ (f = 0 ∨ r = p - 1)) (h1 : cdiv m f = 1) : rowsFrom f p fuel r m = [1] := by
  obtain ⟨k, rfl⟩ : ∃ k, fuel = k + 1 := ⟨fuel - 1, by omega⟩
  simp only [rowsFrom, h, if_false, h1]
  simp
theorem rowsFrom_more {f p r m fuel : Nat} (h : ¬ (f = 0 ∨ r = p - 1)) (h1 : cdiv m f ≠ 1) : rowsFrom f p (fuel + 1) r m = cdiv m f :: rowsFrom f p fuel (r + 1) (cdiv m f) := by
  simp only [rowsFrom, h, if_false, h1]
/-- What the loop of the reference's Rows knows at its head. -/
def RefRel (t : TreeV) (total : Nat) (w0 : World) (n v i : Value) (wr : World) : Prop :=
  ∃ (r m fuel : Nat) (pre : List Nat), n = .int .u64 m ∧ i = .int .i64 r ∧ 1 ≤ r ∧ r + 1 ≤ t.pn ∧ t.pn ≤ fuel + r ∧ (m : Int) ≤ 18446744073709551615 ∧ pre.length = r ∧
    rowsL t.fn t.pn (lvs total t.ln) = pre ++ rowsFrom t.fn t.pn fuel r m ∧ wr.ownsRow w0.heap.size 36 1 v pre.length (pre.map encU) ∧ Below w0.heap.size w0 wr
end Go.Proofs.Ytchepcilkcdemaa
