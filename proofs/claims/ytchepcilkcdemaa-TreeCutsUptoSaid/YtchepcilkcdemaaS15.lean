/- A round of the mixing, by the reference, both kinds. No condition. -/
import Derived.Test.YtchepcilkcdemaaS13
import Derived.Test.YtchepcilkcdemaaS14
set_option linter.all false
set_option maxRecDepth 100000
set_option maxHeartbeats 8000000
namespace Go.Proofs.Ytchepcilkcdemaa
open Go.ChangeShapes Go.WideShapes Go.ChangeAt Go.RowKit Go.Joins
attribute [local go_sem] Oper.semAt_some
def AllAt (p : Nat → Oper → Prop) : Nat → List Oper → Prop
 | _, [] => True
 | n, o :: l => p n o ∧ AllAt p (n + 1) l
theorem allAt_cons {p : Nat → Oper → Prop} {n : Nat} {o : Oper} {l : List Oper} (h : p n o) (h' : AllAt p (n + 1) l) : AllAt p n (o :: l) := ⟨h, h'⟩
theorem allAt_nil {p : Nat → Oper → Prop} {n : Nat} : AllAt p n [] := trivial
theorem allAt_at {p : Nat → Oper → Prop} : ∀ (l : List Oper) (n : Nat), AllAt p n l → ∀ i o, l[i]? = some o → p (n + i) o
 | [], _, _, i, o, h => by simp at h
 | a :: l, n, h, 0, o, e => by simp at e; subst e; exact h.1
 | a :: l, n, h, i + 1, o, e => by
  have := allAt_at l (n + 1) h.2 i o (by simpa using e)
  rw [show n + (i + 1) = n + 1 + i by omega]
  exact this
theorem allAt_spec {p : Nat → Oper → Prop} {l : List Oper} (h : AllAt p 0 l) : ∀ i o, l[i]? = some o → p i o := fun i o hi => by
 have := allAt_at l 0 h i o hi
 rwa [Nat.zero_add] at this
theorem wanted_pos {o : Oper} {ys : Nat → Option Bool} (h : o.guard = none) : Region.wanted o ys = true := by unfold Region.wanted; rw [h]
def Stored (W : World) (b : Nat) (T : TypeId) (cs : Array Value) : Prop := W.heap[b]? = some (.cells cs T (0, 0))
/-- What each operation has left: a value; the store (at s): the block. -/
def GoodS (s b : Nat) (T : TypeId) (cs : Array Value) (L : List Value) (i : Nat) (v : Value) (W : World) : Prop :=
 if i = s then Stored W b T cs else match L[i]? with | some g => v = g | none => True
theorem goodS_below {s b : Nat} {T : TypeId} {cs : Array Value} (L : List Value) {W W' : World} (hb : Below W.heap.size W W') (i : Nat) : ∀ j u, j ≠ i → GoodS s b T cs L j u W → GoodS s b T cs L j u W' := by
 intro j u _ h
 unfold GoodS at *
 by_cases e : j = s
 ·rw [if_pos e] at h ⊢
  exact (hb.block b (Array.getElem?_eq_some_iff.1 h).1).trans h
 ·rw [if_neg e] at h ⊢
  exact h
theorem goodS_other {s b : Nat} {T : TypeId} {cs : Array Value} (L : List Value) {W W' : World} : ∀ j u, j ≠ s → GoodS s b T cs L j u W → GoodS s b T cs L j u W' := by
 intro j u e h
 unfold GoodS at *
 rw [if_neg e] at h ⊢
 exact h
theorem goodS_nil {s b : Nat} {T : TypeId} {cs : Array Value} {L : List Value} {i : Nat} (hs : i = s) (v : Value) (W : World) (h : GoodS s b T cs L i v W) : GoodS s b T cs L i undef W := by
 unfold GoodS at *
 rw [if_pos hs] at h ⊢
 exact h
theorem goodS_store {s b : Nat} {T : TypeId} {cs : Array Value} {L : List Value} {v : Value} {W : World} (h : Stored W b T cs) : GoodS s b T cs L s v W := by
 unfold GoodS; rw [if_pos rfl]; exact h
/-- All stays but the block b; as long as the store has not come up it is as it was. -/
def RS (b : Nat) (T : TypeId) (cs : Array Value) (w : World) (f : Bool) (W : World) : Prop := But b w W ∧ (f = false → Stored W b T cs)
theorem RS.next {b : Nat} {T : TypeId} {cs : Array Value} {w : World} {f g : Bool} {W W' : World} (h : RS b T cs w f W) (hb : Below W.heap.size W W') (hg : g = false → f = false) : RS b T cs w g W' :=
 ⟨h.1.trans (But.of_below hb), fun e => (hb.block b (Array.getElem?_eq_some_iff.1 (h.2 (hg e))).1).trans (h.2 (hg e))⟩
theorem RS.same {b : Nat} {T : TypeId} {cs : Array Value} {w : World} {f g : Bool} {W : World} (h : RS b T cs w f W) (hg : g = false → f = false) : RS b T cs w g W := ⟨h.1, fun e => h.2 (hg e)⟩
theorem or_ff {f b : Bool} (h : (f || b) = false) : f = false := by cases f <;> simp_all
theorem But.setRow {b : Nat} {w W : World} (h : But b w W) (cs : Array Value) : But b w (W.setRow b cs) := h.trans ⟨rfl, rfl, rfl, by simp [World.setRow], fun g _ hb => setRow_other _ _ _ _ hb⟩
theorem bits_xor_comm (k : IntKind) (x y : Int) : bits .xor k x y = bits .xor k y x := by simp only [bits, BitVec.xor_comm]
/-- The state, as far as the first i words of both halves have been laid. -/
def fillN (h iv : List Int) : Nat → List Int
 | 0 => [0, 0, 0, 0, 0, 0, 0, 0, 0, 0, 0, 0, 0, 0, 0, 0]
 | i + 1 => ((fillN h iv i).set i (wd h i)).set (i + 8) (wd iv i)
theorem fillN_length (h iv : List Int) : ∀ i, (fillN h iv i).length = 16
 | 0 => rfl
 | i + 1 => by simp [fillN, fillN_length h iv i]
theorem arrV_get {k : IntKind} {n : Nat} {L : List Int} (h : L.length = n) {i : Nat} (hi : i < n) : (arrV k L)[i]? = some (.int k (wd L i)) := by
 simp [arrV, wd, List.getD_eq_getElem?_getD, List.getElem?_eq_getElem (show i < L.length by omega)]
theorem bits_xor_val (k : IntKind) (hk : ∀ n : Int, 0 ≤ n → n < 2 ^ k.bits → k.wrap n = n) (a b : Int) : bits .xor k a b = ((BitVec.ofInt k.bits a ^^^ BitVec.ofInt k.bits b).toNat : Int) := by
 simp only [bits]
 refine hk _ (by omega) ?_
 have := (BitVec.ofInt k.bits a ^^^ BitVec.ofInt k.bits b).isLt
 exact_mod_cast this
theorem bits_xor_assoc (k : IntKind) (hk : ∀ n : Int, 0 ≤ n → n < 2 ^ k.bits → k.wrap n = n) (a b c : Int) : bits .xor k (bits .xor k a b) c = bits .xor k a (bits .xor k b c) := by
 have e : ∀ x : BitVec k.bits, BitVec.ofInt k.bits (x.toNat : Int) = x := fun x => by simp
 rw [bits_xor_val k hk (bits .xor k a b) c, bits_xor_val k hk a b, bits_xor_val k hk a (bits .xor k b c), bits_xor_val k hk b c, e, e, BitVec.xor_assoc]
theorem xor64_assoc (a b c : Int) : bits .xor .u64 (bits .xor .u64 a b) c = bits .xor .u64 a (bits .xor .u64 b c) := bits_xor_assoc .u64 wraps_u64 a b c
theorem xor32_assoc (a b c : Int) : bits .xor .u32 (bits .xor .u32 a b) c = bits .xor .u32 a (bits .xor .u32 b c) := bits_xor_assoc .u32 wraps_u32 a b c
end Go.Proofs.Ytchepcilkcdemaa
