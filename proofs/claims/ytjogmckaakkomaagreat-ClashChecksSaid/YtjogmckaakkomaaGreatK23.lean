/- A region that draws its order, in a world that grows only: each operation's slot says what it must, in whatever order; then a tail of operations of which each waits for all before it. No condition. -/
import Derived.Test.YtjogmckaakkomaaGreatK16
import Derived.Test.YtjogmckaakkomaaGreatK10
import Derived.Test.YtjogmckaakkomaaGreatK02
import Derived.Below
import Derived.Laws.Tables
namespace Go.Proofs.YtjogmckaakkomaaGreat
open Go Go.RowKit

theorem wp_build_as {P : Program} {o : Oper} {a : Act} {w : World} {K : Act → World → Prop} {Q : Exit → Act → World → Prop} (t : TypeId) (parts : Array (Nat × Operand)) (ho : o.op = .build t parts) (cells : Array Value)
  (hf : P.built t (parts.map fun (i, x) => (i, a.eval x)).toList = some cells) (h : K (a.put o.dst (.agg cells)) w) : o.wp P a w K Q :=
 wp_build t parts ho (by rw [hf]; rfl) (by rw [hf]; exact h)
/-- Each operation of a list with its place. -/
def EachO (p : Nat → Oper → Prop) : Nat → List Oper → Prop
 | _, [] => True
 | n, o :: l => p n o ∧ EachO p (n + 1) l
theorem eachO_cons {p : Nat → Oper → Prop} {n : Nat} {o : Oper} {l : List Oper} (h : p n o) (h' : EachO p (n + 1) l) : EachO p n (o :: l) := ⟨h, h'⟩
theorem eachO_nil {p : Nat → Oper → Prop} {n : Nat} : EachO p n [] := trivial
theorem eachO_at {p : Nat → Oper → Prop} : ∀ (l : List Oper) (n : Nat), EachO p n l → ∀ i o, l[i]? = some o → p (n + i) o
 | [], _, _, i, o, hi => by simp at hi
 | _ :: _, n, h, 0, o, hi => by simp at hi; subst hi; exact h.1
 | _ :: l, n, h, i + 1, o, hi => by
  have := eachO_at l (n + 1) h.2 i o (by simpa using hi)
  rw [show n + (i + 1) = n + 1 + i by omega]; exact this
theorem eachO_spec {p : Nat → Oper → Prop} {l : List Oper} (h : EachO p 0 l) : ∀ i o, l[i]? = some o → p i o := fun i o hi => by
 have := eachO_at l 0 h i o hi
 rwa [Nat.zero_add] at this
/-- What each operation's slot says, by a list. -/
def GoodL (gs : List (Value → World → Prop)) (i : Nat) (v : Value) (W : World) : Prop := match gs[i]? with
 | some g => g v W
 | none => True
def StayL : List (Value → World → Prop) → Prop
 | [] => True
 | g :: gs => (∀ v W W', g v W → Below W.heap.size W W' → g v W') ∧ StayL gs
theorem goodL_stay : ∀ {gs : List (Value → World → Prop)}, StayL gs → ∀ {i : Nat} {v : Value} {W W' : World}, GoodL gs i v W → Below W.heap.size W W' → GoodL gs i v W'
 | [], _, i, v, W, W', _, _ => by unfold GoodL; simp
 | g :: gs, h, 0, v, W, W', hg, hb => h.1 v W W' hg hb
 | g :: gs, h, i + 1, v, W, W', hg, hb => by
  have := goodL_stay (gs := gs) h.2 (i := i) (v := v) (W := W) (W' := W') (by unfold GoodL at hg ⊢; simpa using hg) hb
  unfold GoodL at this ⊢; simpa using this
/-- Of a tail each operation waits for all before it. -/
def tailB (md : Region.Mode) : List Oper → List Oper → Bool
 | _, [] => true
 | init, o :: t => lastB2 md init o init.length && backB md init && tailB md (init ++ [o]) t
def ThenTail (P : Program) : List Oper → List Oper → (Exit → Act → World → Prop) → Exit → Act → World → Prop
 | _, [], Q => Q
 | init, o :: t, Q => ThenLast P (init ++ [o]).toArray o (ThenTail P (init ++ [o]) t Q)
theorem thenTail_cons {P : Program} {init t : List Oper} {o : Oper} {Q : Exit → Act → World → Prop} {a : Act} {w : World} (h : wpList P (init ++ [o]).toArray (ThenTail P (init ++ [o]) t Q) [o] a w) : ThenTail P init (o :: t) Q .normal a w := h
theorem thenTail_nil {P : Program} {init : List Oper} {Q : Exit → Act → World → Prop} {a : Act} {w : World} (h : Q .normal a w) : ThenTail P init [] Q .normal a w := h
theorem wpAny_tail {P : Program} {md : Region.Mode} {Q : Exit → Act → World → Prop} {a : Act} {w : World} : ∀ (tail init : List Oper), tailB md init tail = true →
  wpAny P md init.toArray (ThenTail P init tail Q) init.length (Array.replicate init.length false) a w → wpAny P md (init ++ tail).toArray Q (init.length + tail.length) (Array.replicate (init.length + tail.length) false) a w
 | [], init, _, h => by simpa [ThenTail] using h
 | o :: t, init, hb, h => by
  simp only [tailB, Bool.and_eq_true] at hb
  have h1 := wpAny_tail (P := P) (Q := Q) (a := a) (w := w) t (init ++ [o]) hb.2 (by
   have e1 : (init ++ [o]).toArray = init.toArray.push o := by simp
   have e2 : (init ++ [o]).length = init.length + 1 := by simp
   have e3 : Array.replicate (init.length + 1) false = (Array.replicate init.length false).push false := by
    rw [Array.replicate_succ]
   rw [e2, e3, e1]
   refine wpAny_pop2 (by simpa using hb.1.1) (by simpa using hb.1.2) _ _ _ _ (by simp) ?_ (by rw [← e1]; exact h)
   intro j oj hoj hlj
   exfalso
   have hjs := (Array.getElem?_eq_some_iff.1 hoj).1
   simp only [List.size_toArray] at hjs
   rw [Array.getD_eq_getD_getElem?, Array.getElem?_replicate, if_pos hjs] at hlj
   cases hlj)
  have e1 : init ++ [o] ++ t = init ++ o :: t := by simp
  have e2 : (init ++ [o]).length + t.length = init.length + (o :: t).length := by simp; omega
  rw [e1, e2] at h1
  exact h1
theorem lay_size (a0 : Act) (x : Tmp → Value) : ∀ ds, (lay a0 x ds).tmps.size = a0.tmps.size
 | [] => rfl
 | d :: ds => by
  show ((lay a0 x ds).put (some d) (x d)).tmps.size = _
  simp [Act.put, lay_size a0 x ds]
theorem lay_out (a0 : Act) (x : Tmp → Value) {d : Tmp} : ∀ ds, d ∉ ds → (lay a0 x ds).tmps.getD d undef = a0.tmps.getD d undef
 | [], _ => rfl
 | e :: ds, h => by
  show ((lay a0 x ds).put (some e) (x e)).tmps.getD d undef = _
  have h1 : e ≠ d := fun h2 => h (by simp [h2])
  rw [← lay_out a0 x ds (fun h2 => h (by simp [h2]))]
  simp [Act.put, Array.getD_eq_getD_getElem?, Array.getElem?_setIfInBounds, h1]
theorem lay_in (a0 : Act) (x : Tmp → Value) {d : Tmp} (hd : d < a0.tmps.size) : ∀ ds, d ∈ ds → (lay a0 x ds).tmps.getD d undef = x d
 | e :: ds, h => by
  show ((lay a0 x ds).put (some e) (x e)).tmps.getD d undef = _
  by_cases h1 : e = d
  ·subst h1
   have hs : e < (lay a0 x ds).tmps.size := by rw [lay_size]; exact hd
   simp [Act.put, Array.getD_eq_getD_getElem?, Array.getElem?_setIfInBounds, hs]
  ·have h2 : d ∈ ds := by
    rcases List.mem_cons.1 h with h2 | h2
    ·exact absurd h2.symm h1
    ·exact h2
   rw [← lay_in a0 x hd ds h2]
   simp [Act.put, Array.getD_eq_getD_getElem?, Array.getElem?_setIfInBounds, h1]
/-- An act whose slots ds hold x, the others what a0 holds. -/
def Lays (a0 : Act) (x : Tmp → Value) (ds : List Tmp) (A : Act) : Prop := (∀ d, d ∈ ds → A.tmps.getD d undef = x d) ∧ ∀ d, d ∉ ds → A.tmps.getD d undef = a0.tmps.getD d undef
theorem lays_lay {a0 : Act} {x : Tmp → Value} {ds : List Tmp} (h : ∀ d ∈ ds, d < a0.tmps.size) : Lays a0 x ds (lay a0 x ds) := ⟨fun d hd => lay_in a0 x (h d hd) ds hd, fun d hd => lay_out a0 x ds hd⟩
/-- What an operation must do, for the tool below. -/
def StepO (P : Program) (init : List Oper) (ds : List Tmp) (a0 : Act) (B : Nat) (w0 : World) (gs : List (Value → World → Prop)) (Q : Exit → Act → World → Prop) (i : Nat) (o : Oper) : Prop :=
 ∀ (A : Act) (x : Tmp → Value) (W : World), Lays a0 x ds A → Below B w0 W → B ≤ W.heap.size → (∀ e ∈ o.after, Region.binds .any e = true → ∀ oe, init[e.on]? = some oe → GoodL gs e.on (slotV x oe) W) →
  ∀ K : Act → World → Prop, (∀ v W', Below W.heap.size W W' → GoodL gs i v W' → K (A.put o.dst v) W') → Oper.wp P o A W K Q
/-- THE REGION. -/
theorem wp_region_below {P : Program} {id : Nat} {w w0 : World} {Q : Exit → Act → World → Prop} {a0 : Act} {B : Nat} {l init tail : List Oper} {n : Nat} (ds : List Tmp) (gs : List (Value → World → Prop)) (hi : l.take n = init) (ht : l.drop n = tail) (hds : init.filterMap (·.dst) = ds) (hsz : (ds.all fun d => decide (d < a0.tmps.size)) = true) (hnd : ds.Nodup) (hback : backB2 init = true)
  (hg : (init.all fun o => o.guard.isNone && o.dst.isSome) = true) (hb : tailB .any init tail = true) (hm : P.follows .mixedOrders = true) (hw : Below B w0 w.drew) (hB : B ≤ w0.heap.size) (hst : StayL gs)
  (hstep : EachO (StepO P init ds a0 B w0 gs (ThenTail P init tail Q)) 0 init)
  (hend : ∀ (x : Tmp → Value) (W : World), Below B w0 W → B ≤ W.heap.size → EachO (fun i o => GoodL gs i (slotV x o) W) 0 init → ThenTail P init tail Q .normal (lay a0 x ds) W) :
  (Code.region id l.toArray true).wp P Q a0 w := by
 have hl : l = init ++ tail := by rw [← hi, ← ht]; exact (List.take_append_drop _ _).symm
 clear hi ht
 subst hl; subst hds
 have hall := fun o ho => List.all_eq_true.1 hg o ho
 refine wp_region_any hm ?_
 have e : (init ++ tail).toArray.size = init.length + tail.length := by simp
 rw [e]
 refine wpAny_tail tail init hb ?_
 have H := wpAny_inv (P := P) (ops := init) (a0 := a0) (Q := ThenTail P init tail Q) (R := fun W => Below B w0 W) (Good := GoodL gs) hnd hback (fun i o hi x W hR hdep K hK => by
   have ho := hall o (List.mem_of_getElem? hi)
   simp only [Bool.and_eq_true, Option.isNone_iff_eq_none] at ho
   have hBW : B ≤ W.heap.size := Nat.le_trans hB hR.size
   rw [if_pos (by simp [Region.wanted, ho.1])]
   exact eachO_spec hstep i o hi _ x W (lays_lay (fun d hd => of_decide_eq_true (List.all_eq_true.1 hsz d hd))) hR hBW hdep K (fun v W' hbW hgv => hK v W' (hR.trans (hbW.mono hBW)) (fun j u _ hj => goodL_stay hst hj hbW) hgv))
  (fun i o v W hi hd => by
   have ho := hall o (List.mem_of_getElem? hi)
   rw [hd] at ho; simp at ho)
  (fun x W hR hG => hend x W hR (Nat.le_trans hB hR.size) (by
   have : ∀ (l : List Oper) (n : Nat), (∀ i o, l[i]? = some o → GoodL gs (n + i) (slotV x o) W) → EachO (fun i o => GoodL gs i (slotV x o) W) n l := by
    intro l
    induction l with
    | nil => intro n _; trivial
    | cons o l ih =>
     intro n h
     refine ⟨by simpa using h 0 o (by simp), ih (n + 1) (fun i o' hi => ?_)⟩
     have := h (i + 1) o' (by simpa using hi)
     rw [show n + 1 + i = n + (i + 1) by omega]; exact this
   exact this init 0 (fun i o hi => by rw [Nat.zero_add]; exact hG i o hi)))
  init.length (Array.replicate init.length false) (fun d => a0.tmps.getD d undef) w.drew (by simp) (by
   simp only [Array.toList_replicate, todo, List.countP_replicate]; simp) hw (fun i o hi hl => by
   have hlt : i < init.length := (List.getElem?_eq_some_iff.1 hi).1
   simp [Array.getD_eq_getD_getElem?, hlt] at hl)
 rw [lay_own] at H
 exact H
/-- What an operation must do, for the tool below: R of the world. -/
def StepR (P : Program) (init : List Oper) (ds : List Tmp) (a0 : Act) (R : World → Prop) (gs : List (Value → World → Prop)) (Q : Exit → Act → World → Prop) (i : Nat) (o : Oper) : Prop :=
 ∀ (A : Act) (x : Tmp → Value) (W : World), Lays a0 x ds A → R W → (∀ e ∈ o.after, Region.binds .any e = true → ∀ oe, init[e.on]? = some oe → GoodL gs e.on (slotV x oe) W) →
  ∀ K : Act → World → Prop, (∀ v W', R W' → (∀ j u, j ≠ i → GoodL gs j u W → GoodL gs j u W') → GoodL gs i v W' → K (A.put o.dst v) W') → Oper.wp P o A W K Q
/-- THE REGION, in a world of which R holds all along. -/
theorem wp_region_rel {P : Program} {id : Nat} {w : World} {Q : Exit → Act → World → Prop} {a0 : Act} {l init tail : List Oper} {n : Nat} (R : World → Prop) (ds : List Tmp) (gs : List (Value → World → Prop)) (hi : l.take n = init) (ht : l.drop n = tail) (hds : init.filterMap (·.dst) = ds) (hsz : (ds.all fun d => decide (d < a0.tmps.size)) = true) (hnd : ds.Nodup) (hback : backB2 init = true)
  (hg : (init.all fun o => o.guard.isNone) = true) (hb : tailB .any init tail = true) (hm : P.follows .mixedOrders = true) (hw : R w.drew)
  (hgn : EachO (fun i o => o.dst = none → ∀ v W, GoodL gs i v W → GoodL gs i undef W) 0 init)
  (hstep : EachO (StepR P init ds a0 R gs (ThenTail P init tail Q)) 0 init)
  (hend : ∀ (x : Tmp → Value) (W : World), R W → EachO (fun i o => GoodL gs i (slotV x o) W) 0 init → ThenTail P init tail Q .normal (lay a0 x ds) W) :
  (Code.region id l.toArray true).wp P Q a0 w := by
 have hl : l = init ++ tail := by rw [← hi, ← ht]; exact (List.take_append_drop _ _).symm
 clear hi ht
 subst hl; subst hds
 have hall := fun o ho => List.all_eq_true.1 hg o ho
 refine wp_region_any hm ?_
 have e : (init ++ tail).toArray.size = init.length + tail.length := by simp
 rw [e]
 refine wpAny_tail tail init hb ?_
 have H := wpAny_inv (P := P) (ops := init) (a0 := a0) (Q := ThenTail P init tail Q) (R := R) (Good := GoodL gs) hnd hback (fun i o hi x W hR hdep K hK => by
   have ho := hall o (List.mem_of_getElem? hi)
   simp only [Option.isNone_iff_eq_none] at ho
   rw [if_pos (by simp [Region.wanted, ho])]
   exact eachO_spec hstep i o hi _ x W (lays_lay (fun d hd => of_decide_eq_true (List.all_eq_true.1 hsz d hd))) hR hdep K hK)
  (fun i o v W hi hd hgv => eachO_spec hgn i o hi hd v W hgv)
  (fun x W hR hG => hend x W hR (by
   have : ∀ (l : List Oper) (n : Nat), (∀ i o, l[i]? = some o → GoodL gs (n + i) (slotV x o) W) → EachO (fun i o => GoodL gs i (slotV x o) W) n l := by
    intro l
    induction l with
    | nil => intro n _; trivial
    | cons o l ih =>
     intro n h
     refine ⟨by simpa using h 0 o (by simp), ih (n + 1) (fun i o' hi => ?_)⟩
     have := h (i + 1) o' (by simpa using hi)
     rw [show n + 1 + i = n + (i + 1) by omega]; exact this
   exact this init 0 (fun i o hi => by rw [Nat.zero_add]; exact hG i o hi)))
  init.length (Array.replicate init.length false) (fun d => a0.tmps.getD d undef) w.drew (by simp) (by
   simp only [Array.toList_replicate, todo, List.countP_replicate]; simp) hw (fun i o hi hl => by
   have hlt : i < init.length := (List.getElem?_eq_some_iff.1 hi).1
   simp [Array.getD_eq_getD_getElem?, hlt] at hl)
 rw [lay_own] at H
 exact H
theorem BR {B : Nat} {w : World} : Below B w w := Below.refl _ _
def vl (v : Value) : Value → World → Prop := fun u _ => u = v
theorem kV {g : Value → Prop} : ∀ (u : Value) (W W' : World), g u → Below W.heap.size W W' → g u := fun _ _ _ h _ => h
theorem kW {g : Value → Prop} : ∀ (W W' : World), Below W.heap.size W W' → ∀ v, g v → g v := fun _ _ _ _ h => h
theorem eachO_8 {p : Nat → Oper → Prop} {n : Nat} {a b c d e f g h : Oper} {l : List Oper} (ha : p n a) (hb : p (n + 1) b) (hc : p (n + 1 + 1) c) (hd : p (n + 1 + 1 + 1) d) (he : p (n + 1 + 1 + 1 + 1) e) (hf : p (n + 1 + 1 + 1 + 1 + 1) f) (hg : p (n + 1 + 1 + 1 + 1 + 1 + 1) g) (hh : p (n + 1 + 1 + 1 + 1 + 1 + 1 + 1) h) (k : EachO p (n + 1 + 1 + 1 + 1 + 1 + 1 + 1 + 1) l) : EachO p n (a :: b :: c :: d :: e :: f :: g :: h :: l) := ⟨ha, hb, hc, hd, he, hf, hg, hh, k⟩
theorem gv {a0 A : Act} {x : Tmp → Value} {ds : List Tmp} {gs : List (Value → World → Prop)} {init : List Oper} {W : World} {after : Array Edge} {v : Value} {oe : Oper} (hA : Lays a0 x ds A)
    (hdep : ∀ e ∈ after, Region.binds .any e = true → ∀ oe, init[e.on]? = some oe → GoodL gs e.on (slotV x oe) W) (i s : Nat)
    (h1 : s ∈ ds := by decide) (h2 : (⟨i, .data⟩ : Edge) ∈ after := by simp) (h3 : init[i]? = some oe := by rfl) (h4 : slotV x oe = x s := by rfl) (h5 : GoodL gs i = (fun u _ => u = v) := by rfl) : A.tmps.getD s undef = v := by
  have := hdep _ h2 rfl oe h3
  rw [h5, h4] at this
  exact (hA.1 s h1).trans this
end Go.Proofs.YtjogmckaakkomaaGreat
