/- A region that draws its order, one operation of which is a store: of each operation that has come up its slots and the memory say what they must. No condition. -/
import Derived.Test.YtjogmckaakkomaaGreatK23
import Derived.Test.YtjogmckaakkomaaGreatK16
namespace Go.Proofs.YtjogmckaakkomaaGreat
open Go Go.RowKit

def setD (D : Nat → Bool) (i : Nat) : Nat → Bool := fun j => D j || j == i
def updO (x : Tmp → Value) (d : Option Tmp) (v : Value) : Tmp → Value := match d with | some d => upd x d v | none => x
def ClosedD (ops : List Oper) (D : Nat → Bool) : Prop := ∀ j oj, ops[j]? = some oj → D j = true → ∀ e ∈ oj.after, Region.binds .any e = true → D e.on = true
theorem lay_updO (a0 : Act) (x : Tmp → Value) {ops : List Oper} (hnd : (ops.filterMap (·.dst)).Nodup) {i : Nat} {o : Oper} (hi : ops[i]? = some o) (v : Value) :
  (lay a0 x (ops.filterMap (·.dst))).put o.dst v = lay a0 (updO x o.dst v) (ops.filterMap (·.dst)) := by
 cases hd : o.dst with
 | none => rfl
 | some d => exact lay_put a0 x d v _ hnd (List.mem_filterMap.2 ⟨o, List.mem_of_getElem? hi, hd⟩)
section
variable {P : Program} {ops : List Oper} {a0 : Act} {Q : Exit → Act → World → Prop} {R : (Nat → Bool) → (Tmp → Value) → World → Prop}
theorem wpAny_gen (hnd : (ops.filterMap (·.dst)).Nodup) (hback : backB2 ops = true)
  (hstep : ∀ (i : Nat) (o : Oper), ops[i]? = some o → ∀ (D : Nat → Bool) (x : Tmp → Value) (W : World), R D x W → D i = false → (∀ e ∈ o.after, Region.binds .any e = true → D e.on = true) → ClosedD ops D →
   ∀ K : Act → World → Prop, (∀ v W', R (setD D i) (updO x o.dst v) W' → K ((lay a0 x (ops.filterMap (·.dst))).put o.dst v) W') →
   if Region.wanted o (yielded ops.toArray (lay a0 x (ops.filterMap (·.dst))).tmps) = true then Oper.wp P o (lay a0 x (ops.filterMap (·.dst))) W K Q else K ((lay a0 x (ops.filterMap (·.dst))).put o.dst undef) W)
  (hend : ∀ (D : Nat → Bool) (x : Tmp → Value) (W : World), R D x W → (∀ i, D i = true) → Q .normal (lay a0 x (ops.filterMap (·.dst))) W) :
  ∀ (fuel : Nat) (listed : Array Bool) (x : Tmp → Value) (W : World), listed.size = ops.length → todo listed.toList ≤ fuel → R (fun j => listed.getD j true) x W → ClosedD ops (fun j => listed.getD j true) →
   wpAny P .any ops.toArray Q fuel listed (lay a0 x (ops.filterMap (·.dst))) W := by
 intro fuel
 induction fuel with
 | zero =>
  intro listed x W hs ht hR hC
  have hall : ∀ i, listed.getD i true = true := fun i => by
   have := todo_none (l := listed.toList) (by omega) i
   simpa [Array.getD_eq_getD_getElem?, List.getD_eq_getElem?_getD] using this
  refine ⟨?_, hend _ x W hR hall⟩
  rw [List.eq_nil_iff_forall_not_mem]
  intro j hj
  have := (mem_ready.1 hj).1
  rw [hall j] at this
  cases this
 | succ fuel ih =>
  intro listed x W hs ht hR hC
  refine ⟨fun hr => hend _ x W hR ?_, fun i hi => ?_⟩
  ·intro j
   show listed.getD j true = true
   induction j using Nat.strongRecOn with
   | _ j ihj =>
    cases hl : listed.getD j true with
    | true => rfl
    | false =>
     have hj : j < listed.size := by
      rw [Array.getD_eq_getD_getElem?] at hl
      cases e : listed[j]? with
      | none => rw [e] at hl; cases hl
      | some b => exact (Array.getElem?_eq_some_iff.1 e).1
     obtain ⟨oj, ho⟩ : ∃ oj, ops[j]? = some oj := ⟨ops[j]'(by omega), by simp [show j < ops.length by omega]⟩
     have hm : j ∈ Region.ready .any ops.toArray listed := mem_ready.2 ⟨hl, oj, by simpa using ho, fun e he hb => by
      have hlt := (backB2_spec hback ho).1 e he hb
      have h2 := ihj e.on hlt
      have hlt' : e.on < listed.size := by omega
      simp only [Array.getD_eq_getD_getElem?, Array.getElem?_eq_getElem hlt', Option.getD_some] at h2 ⊢
      exact h2⟩
     rw [hr] at hm; cases hm
  ·obtain ⟨hun, o, ho, hdep⟩ := mem_ready.1 hi
   have ho' : ops[i]? = some o := by simpa using ho
   have hi' : i < listed.size := by
    have := (List.getElem?_eq_some_iff.1 ho').1
    omega
   have hun' : listed.toList[i]? = some false := by
    rw [Array.getD_eq_getD_getElem?, Array.getElem?_eq_getElem hi', Option.getD_some] at hun
    rw [Array.getElem?_toList, Array.getElem?_eq_getElem hi', hun]
   have htodo : todo (listed.setIfInBounds i true).toList ≤ fuel := by
    have := todo_set listed.toList i hun'
    rw [Array.toList_setIfInBounds]
    omega
   have hdep' : ∀ e ∈ o.after, Region.binds .any e = true → listed.getD e.on true = true := fun e he hb => by
    have h6 := hdep e he hb
    rw [Array.getD_eq_getD_getElem?] at h6 ⊢
    cases e' : listed[e.on]? with
    | none => rfl
    | some b => rw [e'] at h6; exact h6
   have hset : (fun j => (listed.setIfInBounds i true).getD j true) = setD (fun j => listed.getD j true) i := by
    funext j
    simp only [setD, Array.getD_eq_getD_getElem?, Array.getElem?_setIfInBounds]
    by_cases e : i = j
    ·subst e; simp [hi']
    ·simp [e, Ne.symm e]
   refine wpOp_step ho fun K hK => hstep i o ho' _ x W hR hun hdep' hC K fun v W' hR' => ?_
   rw [lay_updO a0 x hnd ho' v]
   refine hK _ _ ?_
   refine ih _ (updO x o.dst v) W' (by simpa using hs) htodo (by rw [hset]; exact hR') ?_
   intro j oj hoj hlj e he hb
   rw [hset] at hlj ⊢
   simp only [setD, Bool.or_eq_true, beq_iff_eq] at hlj ⊢
   rcases hlj with hlj | rfl
   ·exact .inl (hC j oj hoj hlj e he hb)
   ·obtain rfl : o = oj := Option.some.inj (ho'.symm.trans hoj)
    exact .inl (hdep' e he hb)
end
/-- What is known of an operation that has come up: of its own slot; of slots (a store's: of what it waits for). -/
inductive GS where
 | own (q : Value → World → Prop)
 | far (ds : List Tmp) (q : List Value → World → Prop)
def goodS (l : List Oper) (gs : List GS) (x : Tmp → Value) (W : World) (j : Nat) : Prop := match gs[j]?, l[j]? with
 | some (.own q), some o => q (slotV x o) W
 | some (.far ds q), some _ => q (ds.map x) W
 | _, _ => True
def GS.stay : GS → World → World → Prop
 | .own q, W, W' => ∀ v, q v W → q v W'
 | .far _ q, W, W' => ∀ v, q v W → q v W'
def StayG : List GS → Prop
 | [] => True
 | g :: gs => (∀ W W', Below W.heap.size W W' → g.stay W W') ∧ StayG gs
theorem stayG_at : ∀ {gs : List GS}, StayG gs → ∀ {j : Nat} {g : GS}, gs[j]? = some g → ∀ W W', Below W.heap.size W W' → g.stay W W'
 | [], _, j, g, h, _, _, _ => by simp at h
 | _ :: _, hs, 0, g, h, W, W', hb => by simp at h; subst h; exact hs.1 W W' hb
 | _ :: gs, hs, j + 1, g, h, W, W', hb => stayG_at (gs := gs) hs.2 (by simpa using h) W W' hb
/-- All but one stay. -/
def StayBut (W W' : World) (s : Nat) : Nat → List GS → Prop
 | _, [] => True
 | n, g :: gs => (n = s ∨ g.stay W W') ∧ StayBut W W' s (n + 1) gs
theorem stayBut_at {W W' : World} {s : Nat} : ∀ {gs : List GS} {n : Nat}, StayBut W W' s n gs → ∀ {j : Nat} {g : GS}, gs[j]? = some g → n + j ≠ s → g.stay W W'
 | [], _, _, j, g, h, _ => by simp at h
 | _ :: _, n, hs, 0, g, h, hne => by
  simp at h; subst h
  rcases hs.1 with h1 | h1
  ·exact absurd h1 (by simpa using hne)
  ·exact h1
 | _ :: gs, n, hs, j + 1, g, h, hne => stayBut_at (gs := gs) hs.2 (by simpa using h) (by omega)
/-- The slots of which a store's knowledge speaks belong to what it waits for. -/
def slotsB (l : List Oper) (gs : List GS) : Bool := (List.range l.length).all fun j => match l[j]?, gs[j]? with
 | some oj, some (.far ds _) => ds.all fun d => oj.after.any fun e => Region.binds .any e && (match l[e.on]? with | some oe => oe.dst == some d | none => false)
 | _, _ => true
theorem slotsB_spec {l : List Oper} {gs : List GS} (h : slotsB l gs = true) {j : Nat} {oj : Oper} {ds : List Tmp} {q : List Value → World → Prop} (hj : l[j]? = some oj) (hg : gs[j]? = some (.far ds q)) {d : Tmp} (hd : d ∈ ds) :
  ∃ e ∈ oj.after, Region.binds .any e = true ∧ ∃ oe, l[e.on]? = some oe ∧ oe.dst = some d := by
 have hlt : j < l.length := (List.getElem?_eq_some_iff.1 hj).1
 have h1 := List.all_eq_true.1 h j (List.mem_range.2 hlt)
 rw [hj, hg] at h1
 obtain ⟨e, he, h2⟩ := Array.any_eq_true'.1 (List.all_eq_true.1 h1 d hd)
 rw [Bool.and_eq_true] at h2
 refine ⟨e, he, h2.1, ?_⟩
 cases ho : l[e.on]? with
 | none => rw [ho] at h2; simp at h2
 | some oe => rw [ho] at h2; exact ⟨oe, rfl, by simpa using h2.2⟩
def ownB (gs : List GS) (s i : Nat) (o : Oper) : Bool := (match gs[i]? with | some (.far _ _) => false | _ => true) && i != s && o.dst.isSome
def ownG (gs : List GS) (i : Nat) (v : Value) (W : World) : Prop := match gs[i]? with | some (.own q) => q v W | _ => True
def atG (gs : List GS) (i : Nat) (x : Tmp → Value) (v : Value) (W : World) : Prop := match gs[i]? with | some (.far ds q) => q (ds.map x) W | some (.own q) => q v W | none => True
/-- What an operation must do that makes memory at most. -/
def StepG (P : Program) (l : List Oper) (ds : List Tmp) (a0 : Act) (Rb : Bool → World → Prop) (s : Nat) (gs : List GS) (Q : Exit → Act → World → Prop) (i : Nat) (o : Oper) : Prop :=
 ∀ (A : Act) (x : Tmp → Value) (W : World) (f : Bool), Lays a0 x ds A → Rb f W → (waitsB l s i = true → f = false) → (∀ e ∈ o.after, Region.binds .any e = true → goodS l gs x W e.on) →
  ∀ K : Act → World → Prop, (∀ v W', Below W.heap.size W W' → ownG gs i v W' → K (A.put o.dst v) W') → Oper.wp P o A W K Q
/-- What the store must do. -/
def StepS (P : Program) (l : List Oper) (ds : List Tmp) (a0 : Act) (Rb : Bool → World → Prop) (s : Nat) (gs : List GS) (Q : Exit → Act → World → Prop) (o : Oper) : Prop :=
 ∀ (A : Act) (x : Tmp → Value) (W : World), Lays a0 x ds A → Rb false W → (∀ e ∈ o.after, Region.binds .any e = true → goodS l gs x W e.on) →
  ∀ K : Act → World → Prop, (∀ v W', (o.dst = none → v = undef) → Rb true W' → StayBut W W' s 0 gs → atG gs s x v W' → K (A.put o.dst v) W') → Oper.wp P o A W K Q
theorem slot_other {l : List Oper} (hback : backB2 l = true) {i j : Nat} {o oj : Oper} (hi : l[i]? = some o) (hj : l[j]? = some oj) (hne : j ≠ i) (x : Tmp → Value) (v : Value) : slotV (updO x o.dst v) oj = slotV x oj := by
 unfold slotV updO
 cases hd : o.dst with
 | none => rfl
 | some d =>
  cases hd' : oj.dst with
  | none => rfl
  | some d' =>
   have : d' ≠ d := fun e => hne ((backB2_spec hback hi).2 j oj d hj hd (by rw [hd', e]))
   simp [upd, this]
/-- THE REGION, with a tail of operations of which each waits for all before it. -/
theorem wp_region_onet {P : Program} {id : Nat} {w : World} {Q : Exit → Act → World → Prop} {a0 : Act} {L l tail : List Oper} {n : Nat} (hi : L.take n = l) (ht : L.drop n = tail) (htl : tailB .any l tail = true) (Rb : Bool → World → Prop) (s : Nat) (ds : List Tmp) (gs : List GS) (hds : l.filterMap (·.dst) = ds) (hsz : (ds.all fun d => decide (d < a0.tmps.size)) = true) (hnd : ds.Nodup) (hback : backB2 l = true)
  (hg : (l.all fun o => o.guard.isNone) = true) (hsl : slotsB l gs = true) (hs : s < l.length) (hm : P.follows .mixedOrders = true) (hw : Rb false w.drew) (hRb : ∀ f W W', Rb f W → Below W.heap.size W W' → Rb f W') (hst : StayG gs)
  (hstep : EachO (fun i o => (ownB gs s i o = true ∧ StepG P l ds a0 Rb s gs (ThenTail P l tail Q) i o) ∨ (i = s ∧ StepS P l ds a0 Rb s gs (ThenTail P l tail Q) o)) 0 l)
  (hend : ∀ (x : Tmp → Value) (W : World), Rb true W → EachO (fun i _ => goodS l gs x W i) 0 l → ThenTail P l tail Q .normal (lay a0 x ds) W) :
  (Code.region id L.toArray true).wp P Q a0 w := by
 have hL : L = l ++ tail := by rw [← hi, ← ht]; exact (List.take_append_drop _ _).symm
 clear hi ht
 subst hL; subst hds
 have hall := fun o ho => List.all_eq_true.1 hg o ho
 have hslt := hs
 refine wp_region_any hm ?_
 have eL : (l ++ tail).toArray.size = l.length + tail.length := by simp
 rw [eL]
 refine wpAny_tail tail l htl ?_
 have H := wpAny_gen (P := P) (ops := l) (a0 := a0) (Q := ThenTail P l tail Q) (R := fun D x W => Rb (D s) W ∧ ∀ i, D i = true → goodS l gs x W i) hnd hback (fun i o hi D x W hR hDi hdep hC K hK => by
   have ho := hall o (List.mem_of_getElem? hi)
   rw [Option.isNone_iff_eq_none] at ho
   rw [if_pos (by simp [Region.wanted, ho])]
   have hL : Lays a0 x (l.filterMap (·.dst)) (lay a0 x (l.filterMap (·.dst))) := lays_lay (fun d hd => of_decide_eq_true (List.all_eq_true.1 hsz d hd))
   have hothers : ∀ (j : Nat) (v : Value) (W' : World), j ≠ i → D j = true → (∀ g, gs[j]? = some g → g.stay W W') → goodS l gs (updO x o.dst v) W' j := fun j v W' hji hDj hstay => by
    have hgood := hR.2 j hDj
    unfold goodS at hgood ⊢
    cases hgj : gs[j]? with
    | none => trivial
    | some g =>
     cases hlj : l[j]? with
     | none => cases g <;> trivial
     | some oj =>
      rw [hgj, hlj] at hgood
      cases g with
      | own q =>
       show q (slotV (updO x o.dst v) oj) W'
       rw [slot_other hback hi hlj hji]
       exact hstay _ hgj _ hgood
      | far dl q =>
       show q (dl.map (updO x o.dst v)) W'
       have e : dl.map (updO x o.dst v) = dl.map x := by
        refine List.map_congr_left fun d hd => ?_
        unfold updO
        cases hdo : o.dst with
        | none => rfl
        | some d' =>
         have : d ≠ d' := by
          rintro rfl
          obtain ⟨e, he, hb, oe, hoe, hod⟩ := slotsB_spec hsl hlj hgj hd
          have h1 := (backB2_spec hback hi).2 e.on oe d hoe hdo hod
          have h2 := hC j oj hlj hDj e he hb
          rw [h1, hDi] at h2
          cases h2
         simp [upd, this]
       rw [e]
       exact hstay _ hgj _ hgood
   rcases eachO_spec hstep i o hi with ⟨hown, hG⟩ | ⟨rfl, hS⟩
   ·unfold ownB at hown
    simp only [Bool.and_eq_true, bne_iff_ne] at hown
    refine hG _ x W (D s) hL hR.1 (fun hwt => ?_) (fun e he hb => hR.2 _ (hdep e he hb)) K (fun v W' hbW hgv => hK v W' ⟨?_, fun j hj => ?_⟩)
    ·obtain ⟨o', ho', e, he, hb, hon⟩ := waitsB_spec hwt
     cases hDs : D s with
     | false => rfl
     | true =>
      have := hC s o' ho' hDs e he hb
      rw [hon, hDi] at this; cases this
    ·have e : setD D i s = D s := by
      have : (s == i) = false := by rw [beq_eq_false_iff_ne]; exact Ne.symm hown.1.2
      simp [setD, this]
     rw [e]; exact hRb _ _ _ hR.1 hbW
    ·by_cases hji : j = i
     ·subst hji
      unfold goodS
      unfold ownG at hgv
      cases hgj : gs[j]? with
      | none => trivial
      | some g =>
       rw [hgj] at hgv hown
       rw [hi]
       cases g with
       | own q =>
        obtain ⟨d, hd⟩ := Option.isSome_iff_exists.1 hown.2
        have : slotV (updO x o.dst v) o = v := by unfold slotV updO; rw [hd]; simp [upd]
        show q (slotV (updO x o.dst v) o) W'
        rw [this]; exact hgv
       | far dl q => simp at hown
     ·have hDj : D j = true := by
       have hb : (j == i) = false := by rw [beq_eq_false_iff_ne]; exact hji
       simpa [setD, hb] using hj
      exact hothers j v W' hji hDj fun g hg' => stayG_at hst hg' W W' hbW
   ·refine hS _ x W hL (hDi ▸ hR.1) (fun e he hb => hR.2 _ (hdep e he hb)) K (fun v W' hv hR' hstay hgv => ?_)
    refine hK v W' ⟨?_, fun j hj => ?_⟩
    ·have : setD D i i = true := by simp [setD]
     rw [this]; exact hR'
    ·by_cases hji : j = i
     ·subst hji
      unfold goodS
      unfold atG at hgv
      cases hgj : gs[j]? with
      | none => trivial
      | some g =>
       rw [hgj] at hgv
       rw [hi]
       cases g with
       | own q =>
        show q (slotV (updO x o.dst v) o) W'
        have : slotV (updO x o.dst v) o = v := by
         unfold slotV updO
         cases hd : o.dst with
         | none => exact (hv hd).symm
         | some d => simp [upd]
        rw [this]; exact hgv
       | far dl q =>
        show q (dl.map (updO x o.dst v)) W'
        have e : dl.map (updO x o.dst v) = dl.map x := by
         refine List.map_congr_left fun d hd => ?_
         unfold updO
         cases hdo : o.dst with
         | none => rfl
         | some d' =>
          have : d ≠ d' := by
           rintro rfl
           obtain ⟨e, he, hb, oe, hoe, hod⟩ := slotsB_spec hsl hi hgj hd
           have h1 := (backB2_spec hback hi).2 e.on oe d hoe hdo hod
           have h2 := (backB2_spec hback hi).1 e he hb
           omega
          simp [upd, this]
        rw [e]; exact hgv
     ·have hDj : D j = true := by
       have hb : (j == i) = false := by rw [beq_eq_false_iff_ne]; exact hji
       simpa [setD, hb] using hj
      exact hothers j v W' hji hDj fun g hg' => stayBut_at hstay hg' (by simpa using hji))
  (fun D x W hR hD => hend x W (hD s ▸ hR.1) (by
   have : ∀ (m : List Oper) (n : Nat), EachO (fun i _ => goodS l gs x W i) n m := by
    intro m
    induction m with
    | nil => intro n; trivial
    | cons o m ih => intro n; exact ⟨hR.2 n (hD n), ih (n + 1)⟩
   exact this l 0))
  l.length (Array.replicate l.length false) (fun d => a0.tmps.getD d undef) w.drew (by simp) (by
   simp only [Array.toList_replicate, todo, List.countP_replicate]; simp) ⟨by
    have : (Array.replicate l.length false).getD s true = false := by simp [Array.getD_eq_getD_getElem?, hslt]
    show Rb ((Array.replicate l.length false).getD s true) w.drew
    rw [this]; exact hw, fun i hi => by
    have hge : ¬ i < l.length := fun hlt => by simp [Array.getD_eq_getD_getElem?, hlt] at hi
    unfold goodS
    rw [List.getElem?_eq_none (l := l) (by omega)]
    cases gs[i]? with
    | none => trivial
    | some g => cases g <;> trivial⟩ (fun j oj hoj hlj => by
    have hlt : j < l.length := (List.getElem?_eq_some_iff.1 hoj).1
    simp [Array.getD_eq_getD_getElem?, hlt] at hlj)
 rw [lay_own] at H
 exact H
/-- THE REGION. -/
theorem wp_region_one {P : Program} {id : Nat} {w : World} {Q : Exit → Act → World → Prop} {a0 : Act} {l : List Oper} (Rb : Bool → World → Prop) (s : Nat) (ds : List Tmp) (gs : List GS) (hds : l.filterMap (·.dst) = ds) (hsz : (ds.all fun d => decide (d < a0.tmps.size)) = true) (hnd : ds.Nodup) (hback : backB2 l = true)
  (hg : (l.all fun o => o.guard.isNone) = true) (hsl : slotsB l gs = true) (hs : s < l.length) (hm : P.follows .mixedOrders = true) (hw : Rb false w.drew) (hRb : ∀ f W W', Rb f W → Below W.heap.size W W' → Rb f W') (hst : StayG gs)
  (hstep : EachO (fun i o => (ownB gs s i o = true ∧ StepG P l ds a0 Rb s gs Q i o) ∨ (i = s ∧ StepS P l ds a0 Rb s gs Q o)) 0 l)
  (hend : ∀ (x : Tmp → Value) (W : World), Rb true W → EachO (fun i _ => goodS l gs x W i) 0 l → Q .normal (lay a0 x ds) W) :
  (Code.region id l.toArray true).wp P Q a0 w :=
 wp_region_onet (n := l.length) (l := l) (tail := []) (by simp) (by simp) rfl Rb s ds gs hds hsz hnd hback hg hsl hs hm hw hRb hst hstep hend
theorem gw {a0 A : Act} {x : Tmp → Value} {ds : List Tmp} {gs : List GS} {l : List Oper} {W : World} {after : Array Edge} {v : Value} (hA : Lays a0 x ds A)
    (hdep : ∀ e ∈ after, Region.binds .any e = true → goodS l gs x W e.on) (i s : Nat)
    (h1 : s ∈ ds := by decide) (h2 : (⟨i, .data⟩ : Edge) ∈ after := by simp) (h5 : goodS l gs x W i = (x s = v) := by rfl) : A.tmps.getD s undef = v := by
  have := hdep _ h2 rfl
  rw [h5] at this
  exact (hA.1 s h1).trans this
end Go.Proofs.YtjogmckaakkomaaGreat
