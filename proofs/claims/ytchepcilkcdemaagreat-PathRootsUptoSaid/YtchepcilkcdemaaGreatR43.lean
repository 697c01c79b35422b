/- A region that draws its order, one operation of which changes memory: what waits for it comes behind it. No condition. -/
import Derived.Test.YtchepcilkcdemaaGreatR20
set_option linter.all false
set_option maxRecDepth 100000
set_option maxHeartbeats 8000000
namespace Go.Proofs.YtchepcilkcdemaaGreat
open Go Go.RowKit
/-- Does operation i wait for s, at first hand or by way of others? -/
def aftB (l : List Oper) (s : Nat) : Nat → Nat → Bool
 | 0, _ => false
 | n + 1, i => match l[i]? with
  | some o => o.after.any fun e => Region.binds .any e && (e.on == s || aftB l s n e.on)
  | none => false
theorem aftB_D {l : List Oper} {s : Nat} {D : Nat → Bool} (hC : ClosedD l D) : ∀ (n : Nat) {i : Nat}, aftB l s n i = true → D i = true → D s = true
 | 0, i, h, _ => by cases h
 | n + 1, i, h, hD => by
  unfold aftB at h
  cases ho : l[i]? with
  | none => rw [ho] at h; cases h
  | some o =>
   rw [ho] at h
   obtain ⟨e, he, h2⟩ := Array.any_eq_true'.1 h
   rw [Bool.and_eq_true, Bool.or_eq_true, beq_iff_eq] at h2
   have hDe := hC i o ho hD e he h2.1
   rcases h2.2 with h3 | h3
   ·rw [← h3]; exact hDe
   ·exact aftB_D hC n h3 hDe
theorem aftB_dep {l : List Oper} {s i : Nat} {o : Oper} {D : Nat → Bool} (hC : ClosedD l D) (hi : l[i]? = some o) (hdep : ∀ e ∈ o.after, Region.binds .any e = true → D e.on = true) {n : Nat} (h : aftB l s n i = true) : D s = true := by
 cases n with
 | zero => cases h
 | succ n =>
  unfold aftB at h
  rw [hi] at h
  obtain ⟨e, he, h2⟩ := Array.any_eq_true'.1 h
  rw [Bool.and_eq_true, Bool.or_eq_true, beq_iff_eq] at h2
  have hDe := hdep e he h2.1
  rcases h2.2 with h3 | h3
  ·rw [← h3]; exact hDe
  ·exact aftB_D hC n h3 hDe
/-- All stay but one and what waits for it. -/
def StayA (l : List Oper) (W W' : World) (s : Nat) : Nat → List GS → Prop
 | _, [] => True
 | n, g :: gs => (n = s ∨ aftB l s l.length n = true ∨ g.stay W W') ∧ StayA l W W' s (n + 1) gs
theorem stayA_at {l : List Oper} {W W' : World} {s : Nat} : ∀ {gs : List GS} {n : Nat}, StayA l W W' s n gs → ∀ {j : Nat} {g : GS}, gs[j]? = some g → n + j ≠ s → aftB l s l.length (n + j) = false → g.stay W W'
 | [], _, _, j, g, h, _, _ => by simp at h
 | _ :: _, n, hs, 0, g, h, hne, ha => by
  simp at h; subst h
  rcases hs.1 with h1 | h1 | h1
  ·exact absurd h1 (by simpa using hne)
  ·rw [Nat.add_zero, h1] at ha; cases ha
  ·exact h1
 | _ :: gs, n, hs, j + 1, g, h, hne, ha => stayA_at (gs := gs) hs.2 (by simpa using h) (by omega) (by rw [show n + 1 + j = n + (j + 1) by omega]; exact ha)
def StepGa (P : Program) (l : List Oper) (ds : List Tmp) (a0 : Act) (Rb : Bool → World → Prop) (s : Nat) (gs : List GS) (Q : Exit → Act → World → Prop) (i : Nat) (o : Oper) : Prop :=
 ∀ (A : Act) (x : Tmp → Value) (W : World) (f : Bool), Lays a0 x ds A → Rb f W → (waitsB l s i = true → f = false) → (aftB l s l.length i = true → f = true) → (∀ j oj d, l[j]? = some oj → oj.dst = some d → aftB l i l.length j = true → x d = a0.tmps.getD d undef) → (∀ e ∈ o.after, Region.binds .any e = true → goodS l gs x W e.on) →
  ∀ K : Act → World → Prop, (∀ v W', Below W.heap.size W W' → ownG gs i v W' → K (A.put o.dst v) W') → Oper.wp P o A W K Q
def StepSa (P : Program) (l : List Oper) (ds : List Tmp) (a0 : Act) (Rb : Bool → World → Prop) (s : Nat) (gs : List GS) (Q : Exit → Act → World → Prop) (o : Oper) : Prop :=
 ∀ (A : Act) (x : Tmp → Value) (W : World), Lays a0 x ds A → Rb false W → (∀ j oj d, l[j]? = some oj → oj.dst = some d → aftB l s l.length j = true → x d = a0.tmps.getD d undef) → (∀ e ∈ o.after, Region.binds .any e = true → goodS l gs x W e.on) →
  ∀ K : Act → World → Prop, (∀ v W', (o.dst = none → v = undef) → Rb true W' → StayA l W W' s 0 gs → atG gs s x v W' → K (A.put o.dst v) W') → Oper.wp P o A W K Q
theorem wp_region_aft {P : Program} {id : Nat} {w : World} {Q : Exit → Act → World → Prop} {a0 : Act} {L l tail : List Oper} {n : Nat} (hi : L.take n = l) (ht : L.drop n = tail) (htl : tailB .any l tail = true) (Rb : Bool → World → Prop) (s : Nat) (ds : List Tmp) (gs : List GS) (hds : l.filterMap (·.dst) = ds) (hsz : (ds.all fun d => decide (d < a0.tmps.size)) = true) (hnd : ds.Nodup) (hback : backB2 l = true)
  (hwant : ∀ i o, l[i]? = some o → ∀ (A : Act) (x : Tmp → Value) (W : World), Lays a0 x ds A → (∀ e ∈ o.after, Region.binds .any e = true → goodS l gs x W e.on) → Region.wanted o (yielded l.toArray A.tmps) = true ∨ (Region.wanted o (yielded l.toArray A.tmps) = false ∧ ownB gs s i o = true ∧ ∀ W, ownG gs i undef W)) (hsl : slotsB l gs = true) (hs : s < l.length) (hm : P.follows .mixedOrders = true) (hw : Rb false w.drew) (hRb : ∀ f W W', Rb f W → Below W.heap.size W W' → Rb f W') (hst : StayG gs)
  (hstep : EachO (fun i o => (ownB gs s i o = true ∧ StepGa P l ds a0 Rb s gs (ThenTail P l tail Q) i o) ∨ (i = s ∧ StepSa P l ds a0 Rb s gs (ThenTail P l tail Q) o)) 0 l)
  (hend : ∀ (x : Tmp → Value) (W : World), Rb true W → EachO (fun i _ => goodS l gs x W i) 0 l → ThenTail P l tail Q .normal (lay a0 x ds) W) :
  (Code.region id L.toArray true).wp P Q a0 w := by
 have hL : L = l ++ tail := by rw [← hi, ← ht]; exact (List.take_append_drop _ _).symm
 clear hi ht
 subst hL; subst hds
 have hslt := hs
 refine wp_region_any hm ?_
 have eL : (l ++ tail).toArray.size = l.length + tail.length := by simp
 rw [eL]
 refine wpAny_tail tail l htl ?_
 have H := wpAny_gen (P := P) (ops := l) (a0 := a0) (Q := ThenTail P l tail Q) (R := fun D x W => (Rb (D s) W ∧ ∀ i, D i = true → goodS l gs x W i) ∧ ∀ j oj d, l[j]? = some oj → oj.dst = some d → D j = false → x d = a0.tmps.getD d undef) hnd hback (fun i o hi D x W hR0 hDi hdep hC K hK0 => by
   have hR := hR0.1
   have hxi : ∀ j oj d, l[j]? = some oj → oj.dst = some d → aftB l i l.length j = true → x d = a0.tmps.getD d undef := fun j oj d hj hd ha => hR0.2 j oj d hj hd (by
    cases h : D j with
    | false => rfl
    | true => have := aftB_D hC l.length ha h; rw [hDi] at this; cases this)
   have hK : ∀ v W', (Rb (setD D i s) W' ∧ ∀ j, setD D i j = true → goodS l gs (updO x o.dst v) W' j) → K ((lay a0 x (l.filterMap (·.dst))).put o.dst v) W' := fun v W' h => hK0 v W' ⟨h, fun j oj d hj hd hDj => by
    have h1 : D j = false ∧ j ≠ i := by simpa [setD] using hDj
    rw [← hR0.2 j oj d hj hd h1.1]
    unfold updO
    cases hdo : o.dst with
    | none => rfl
    | some d' =>
     have : d ≠ d' := by
      rintro rfl
      exact h1.2 ((backB2_spec hback hi).2 j oj d hj hdo hd)
     simp [upd, this]⟩
   have hL : Lays a0 x (l.filterMap (·.dst)) (lay a0 x (l.filterMap (·.dst))) := lays_lay (fun d hd => of_decide_eq_true (List.all_eq_true.1 hsz d hd))
   have hothers : ∀ (j : Nat) (v : Value) (W' : World), j ≠ i → D j = true → (∀ g, gs[j]? = some g → g.stay W W') → goodS l gs (updO x o.dst v) W' j := fun j v W' hji hDj hstay => by
    have hgood := hR.2 j hDj
    unfold goodS at hgood ⊢
    cases hgj : gs[j]? with
    | none => trivial
    | some g =>
     cases hlj : l[j]? with
     | none => cases g <;> trivial
     | some oj =>
      rw [hgj, hlj] at hgood
      cases g with
      | own q =>
       show q (slotV (updO x o.dst v) oj) W'
       rw [slot_other hback hi hlj hji]
       exact hstay _ hgj _ hgood
      | far dl q =>
       show q (dl.map (updO x o.dst v)) W'
       have e : dl.map (updO x o.dst v) = dl.map x := by
        refine List.map_congr_left fun d hd => ?_
        unfold updO
        cases hdo : o.dst with
        | none => rfl
        | some d' =>
         have : d ≠ d' := by
          rintro rfl
          obtain ⟨e, he, hb, oe, hoe, hod⟩ := slotsB_spec hsl hlj hgj hd
          have h1 := (backB2_spec hback hi).2 e.on oe d hoe hdo hod
          have h2 := hC j oj hlj hDj e he hb
          rw [h1, hDi] at h2
          cases h2
         simp [upd, this]
       rw [e]
       exact hstay _ hgj _ hgood
   have hcont : ownB gs s i o = true → ∀ v W', Below W.heap.size W W' → ownG gs i v W' → K ((lay a0 x (l.filterMap (·.dst))).put o.dst v) W' := fun hown v W' hbW hgv => by
    unfold ownB at hown
    simp only [Bool.and_eq_true, bne_iff_ne] at hown
    refine hK v W' ⟨?_, fun j hj => ?_⟩
    ·have e : setD D i s = D s := by
      have : (s == i) = false := by rw [beq_eq_false_iff_ne]; exact Ne.symm hown.1.2
      simp [setD, this]
     rw [e]; exact hRb _ _ _ hR.1 hbW
    ·by_cases hji : j = i
     ·subst hji
      unfold goodS
      unfold ownG at hgv
      cases hgj : gs[j]? with
      | none => trivial
      | some g =>
       rw [hgj] at hgv hown
       rw [hi]
       cases g with
       | own q =>
        obtain ⟨d, hd⟩ := Option.isSome_iff_exists.1 hown.2
        have : slotV (updO x o.dst v) o = v := by unfold slotV updO; rw [hd]; simp [upd]
        show q (slotV (updO x o.dst v) o) W'
        rw [this]; exact hgv
       | far dl q => simp at hown
     ·have hDj : D j = true := by
       have hb : (j == i) = false := by rw [beq_eq_false_iff_ne]; exact hji
       simpa [setD, hb] using hj
      exact hothers j v W' hji hDj fun g hg' => stayG_at hst hg' W W' hbW
   rcases hwant i o hi _ x W hL (fun e he hb => hR.2 _ (hdep e he hb)) with hw | ⟨hw, hown, hund⟩
   ·rw [if_pos hw]
    rcases eachO_spec hstep i o hi with ⟨hown, hG⟩ | ⟨rfl, hS⟩
    ·refine hG _ x W (D s) hL hR.1 (fun hwt => ?_) (fun hat => aftB_dep hC hi hdep hat) hxi (fun e he hb => hR.2 _ (hdep e he hb)) K (hcont hown)
     obtain ⟨o', ho', e, he, hb, hon⟩ := waitsB_spec hwt
     cases hDs : D s with
     | false => rfl
     | true =>
      have := hC s o' ho' hDs e he hb
      rw [hon, hDi] at this; cases this
    ·refine hS _ x W hL (hDi ▸ hR.1) hxi (fun e he hb => hR.2 _ (hdep e he hb)) K (fun v W' hv hR' hstay hgv => ?_)
     refine hK v W' ⟨?_, fun j hj => ?_⟩
     ·have : setD D i i = true := by simp [setD]
      rw [this]; exact hR'
     ·by_cases hji : j = i
      ·subst hji
       unfold goodS
       unfold atG at hgv
       cases hgj : gs[j]? with
       | none => trivial
       | some g =>
        rw [hgj] at hgv
        rw [hi]
        cases g with
        | own q =>
         show q (slotV (updO x o.dst v) o) W'
         have : slotV (updO x o.dst v) o = v := by
          unfold slotV updO
          cases hd : o.dst with
          | none => exact (hv hd).symm
          | some d => simp [upd]
         rw [this]; exact hgv
        | far dl q =>
         show q (dl.map (updO x o.dst v)) W'
         have e : dl.map (updO x o.dst v) = dl.map x := by
          refine List.map_congr_left fun d hd => ?_
          unfold updO
          cases hdo : o.dst with
          | none => rfl
          | some d' =>
           have : d ≠ d' := by
            rintro rfl
            obtain ⟨e, he, hb, oe, hoe, hod⟩ := slotsB_spec hsl hi hgj hd
            have h1 := (backB2_spec hback hi).2 e.on oe d hoe hdo hod
            have h2 := (backB2_spec hback hi).1 e he hb
            omega
           simp [upd, this]
         rw [e]; exact hgv
      ·have hDj : D j = true := by
        have hb : (j == i) = false := by rw [beq_eq_false_iff_ne]; exact hji
        simpa [setD, hb] using hj
       exact hothers j v W' hji hDj fun g hg' => stayA_at hstay hg' (by simpa using hji) (by
        rw [Nat.zero_add]
        cases ha : aftB l i l.length j with
        | false => rfl
        | true => have := aftB_D hC l.length ha hDj; rw [hDi] at this; cases this)
   ·rw [if_neg (by rw [hw]; decide)]
    exact hcont hown undef W (Below.refl _ _) (hund W))
  (fun D x W hR0 hD => hend x W (hD s ▸ hR0.1.1) (by
   have : ∀ (m : List Oper) (n : Nat), EachO (fun i _ => goodS l gs x W i) n m := by
    intro m
    induction m with
    | nil => intro n; trivial
    | cons o m ih => intro n; exact ⟨hR0.1.2 n (hD n), ih (n + 1)⟩
   exact this l 0))
  l.length (Array.replicate l.length false) (fun d => a0.tmps.getD d undef) w.drew (by simp) (by
   simp only [Array.toList_replicate, todo, List.countP_replicate]; simp) ⟨⟨by
    have : (Array.replicate l.length false).getD s true = false := by simp [Array.getD_eq_getD_getElem?, hslt]
    show Rb ((Array.replicate l.length false).getD s true) w.drew
    rw [this]; exact hw, fun i hi => by
    have hge : ¬ i < l.length := fun hlt => by simp [Array.getD_eq_getD_getElem?, hlt] at hi
    unfold goodS
    rw [List.getElem?_eq_none (l := l) (by omega)]
    cases gs[i]? with
    | none => trivial
    | some g => cases g <;> trivial⟩, fun _ _ _ _ _ _ => rfl⟩ (fun j oj hoj hlj => by
    have hlt : j < l.length := (List.getElem?_eq_some_iff.1 hoj).1
    simp [Array.getD_eq_getD_getElem?, hlt] at hlj)
 rw [lay_own] at H
 exact H
/-- Is an operation wanted, by what the slots hold? -/
def guardS (sp : List Sp) (o : Oper) : Option Bool := match o.guard with
 | none => some true
 | some (j, want) => match sp[j]? with
  | some (.v _ (.bool b)) => if (o.after.any fun e => e.on == j && Region.binds .any e) = true then some (b == want) else none
  | _ => none
def skipB : Option Sp → Bool
 | some (.v _ (.tuple a)) => a.size == 0
 | _ => false
def guardsB (sp : List Sp) (l : List Oper) (s : Nat) : Bool := (List.range l.length).all fun i => match l[i]? with
 | some o => (match guardS sp o with | some true => true | some false => skipB sp[i]? && i != s && o.dst.isSome | none => false)
 | none => true
theorem guards_want {sp : List Sp} {l : List Oper} {ds : List Tmp} {s i : Nat} {o : Oper} {a0 A : Act} {x : Tmp → Value} {W : World} (hds : l.filterMap (·.dst) = ds) (hl : l.map (·.dst) = sp.map Sp.dst) (hg : guardsB sp l s = true) (hin : ∀ e ∈ o.after, e.on < l.length) (hsz : (ds.all fun d => decide (d < a0.tmps.size)) = true) (hA : Lays a0 x ds A) (hi : l[i]? = some o)
  (hdep : ∀ e ∈ o.after, Region.binds .any e = true → goodS l (sp.map Sp.gs) x W e.on) : Region.wanted o (yielded l.toArray A.tmps) = true ∨ (Region.wanted o (yielded l.toArray A.tmps) = false ∧ ownB (sp.map Sp.gs) s i o = true ∧ ∀ W, ownG (sp.map Sp.gs) i undef W) := by
 have h1 : (match guardS sp o with | some true => true | some false => skipB sp[i]? && i != s && o.dst.isSome | none => false) = true := by
  have h1 := List.all_eq_true.1 hg i (List.mem_range.2 (List.getElem?_eq_some_iff.1 hi).1)
  rw [hi] at h1
  exact h1
 cases hgd : o.guard with
 | none => exact .inl (by simp [Region.wanted, hgd])
 | some jw =>
  obtain ⟨j, want⟩ := jw
  have hgs : guardS sp o = match sp[j]? with
   | some (.v _ (.bool b)) => if (o.after.any fun e => e.on == j && Region.binds .any e) = true then some (b == want) else none
   | _ => none := by unfold guardS; rw [hgd]
  cases hsj : sp[j]? with
  | none => rw [hgs, hsj] at h1; cases h1
  | some sj =>
   rw [hsj] at hgs
   match sj, hsj, hgs with
   | .p _ _, _, hgs => rw [hgs] at h1; cases h1
   | .s _, _, hgs => rw [hgs] at h1; cases h1
   | .f _ _ _, _, hgs => rw [hgs] at h1; cases h1
   | .v d u, hsj, hgs =>
    cases u with
    | bool b =>
     have hgs' : guardS sp o = if (o.after.any fun e => e.on == j && Region.binds .any e) = true then some (b == want) else none := hgs
     by_cases hed : (o.after.any fun e => e.on == j && Region.binds .any e) = true
     ·rw [if_pos hed] at hgs'
      obtain ⟨e, he, hej⟩ := Array.any_eq_true'.1 hed
      rw [Bool.and_eq_true, beq_iff_eq] at hej
      have hgd2 := hdep e he hej.2
      have hlt := hin e he
      rw [hej.1] at hgd2 hlt
      obtain ⟨oj, hoj⟩ : ∃ oj, l[j]? = some oj := ⟨_, List.getElem?_eq_getElem hlt⟩
      obtain ⟨s2, hs2, hs2d⟩ := dst_at hl hoj
      rw [hsj] at hs2
      obtain rfl := Option.some.inj hs2
      rw [goodS_map hsj hoj] at hgd2
      have hd : oj.dst = some d := hs2d.symm
      have hv : slotV x oj = x d := by unfold slotV; rw [hd]
      have hx : x d = .bool b := by rw [← hv]; exact hgd2
      have hm : d ∈ ds := by rw [← hds]; exact mem_dst hoj hd
      have hAd : A.tmps.getD d undef = .bool b := (hA.1 d hm).trans hx
      have hAs : A.tmps[d]? = some (.bool b) := by
       rw [Array.getD_eq_getD_getElem?] at hAd
       cases h : A.tmps[d]? with
       | none => rw [h] at hAd; exact absurd hAd (by intro e; cases e)
       | some v => rw [h] at hAd; exact congrArg some hAd
      have hy : yielded l.toArray A.tmps j = some b := by
       unfold yielded
       have : l.toArray[j]? = some oj := by simpa using hoj
       rw [this]
       show (match (oj.dst).bind (A.tmps[·]?) with | some (.bool b) => some b | _ => none) = some b
       rw [hd]
       show (match A.tmps[d]? with | some (.bool b) => some b | _ => none) = some b
       rw [hAs]
      have hw : Region.wanted o (yielded l.toArray A.tmps) = (b == want) := by
       unfold Region.wanted
       rw [hgd]
       show (yielded l.toArray A.tmps j == some want) = _
       rw [hy]; rfl
      rw [hgs'] at h1
      cases hbw : (b == want) with
      | true => exact .inl (by rw [hw, hbw])
      | false =>
       rw [hbw] at h1
       have h2 : (skipB sp[i]? && i != s && o.dst.isSome) = true := h1
       rw [Bool.and_eq_true, Bool.and_eq_true] at h2
       refine .inr ⟨by rw [hw, hbw], ?_, fun W => ?_⟩
       ·unfold ownB
        rw [List.getElem?_map]
        cases hsi : sp[i]? with
        | none => rw [hsi] at h2; exact absurd h2.1.1 (by decide)
        | some si =>
         rw [hsi] at h2
         match si, h2 with
         | .v d u, h2 => simp only [Option.map_some, Sp.gs, Bool.true_and]; rw [h2.1.2, h2.2]; rfl
         | .p _ _, h2 => exact absurd h2.1.1 (by simp [skipB])
         | .s _, h2 => exact absurd h2.1.1 (by simp [skipB])
         | .f _ _ _, h2 => exact absurd h2.1.1 (by simp [skipB])
       ·unfold ownG
        rw [List.getElem?_map]
        cases hsi : sp[i]? with
        | none => trivial
        | some si =>
         rw [hsi] at h2
         match si, h2 with
         | .v d (.tuple a), h2 =>
          have : a = #[] := Array.eq_empty_of_size_eq_zero (by simpa [skipB] using h2.1.1)
          subst this
          rfl
         | .v d (.bool _), h2 => exact absurd h2.1.1 (by simp [skipB])
         | .p _ _, h2 => exact absurd h2.1.1 (by simp [skipB])
         | .s _, h2 => exact absurd h2.1.1 (by simp [skipB])
         | .f _ _ _, h2 => exact absurd h2.1.1 (by simp [skipB])
     ·rw [if_neg hed] at hgs'; rw [hgs'] at h1; cases h1
    | _ => rw [hgs] at h1; cases h1
def StepGac (P : Program) (l : List Oper) (ds : List Tmp) (a0 : Act) (Rb : Bool → World → Prop) (s : Nat) (sp : List Sp) (i : Nat) (Q : Exit → Act → World → Prop) (o : Oper) : Prop :=
 ∀ (A : Act) (x : Tmp → Value) (W : World) (f : Bool), Lays a0 x ds A → Rb f W → (waitsB l s i = true → f = false) → (aftB l s l.length i = true → f = true) → (∀ j oj d, l[j]? = some oj → oj.dst = some d → aftB l i l.length j = true → x d = a0.tmps.getD d undef) → (∀ e ∈ o.after, Region.binds .any e = true → goodS l (sp.map Sp.gs) x W e.on) → DepF sp A W o.after.toList →
  ∀ K : Act → World → Prop, (∀ v W', Below W.heap.size W W' → ownG (sp.map Sp.gs) i v W' → K (A.put o.dst v) W') → Oper.wp P o A W K Q
/-- THE REGION with one store. -/
theorem wp_region_ac {P : Program} {id : Nat} {w : World} {Q : Exit → Act → World → Prop} {a0 : Act} {L l tail : List Oper} {n : Nat} {ds : List Tmp} {o : Oper} (Rb : Bool → World → Prop) (s : Nat) (sp : List Sp) (hst : StayH sp) (hw : Rb false w.drew) (hRb : ∀ f W W', Rb f W → Below W.heap.size W W' → Rb f W')
  (hstep : EachO (fun i o => i = s ∨ StepGac P l ds a0 Rb s sp i (ThenTail P l tail Q) o) 0 l)
  (hstore : StepSa P l ds a0 Rb s (sp.map Sp.gs) (ThenTail P l tail Q) o)
  (hend : ∀ (x : Tmp → Value) (W : World), Rb true W → EndS x W sp → ThenTail P l tail Q .normal (layS a0 x sp) W)
  (hi : L.take n = l := by dsimp only [List.take]) (ht : L.drop n = tail := by dsimp only [List.drop]) (htl : tailB .any l tail = true := by kernel_rfl) (hds : sp.filterMap Sp.dst = ds := by dsimp only [List.filterMap, Sp.dst]) (hl : l.map (·.dst) = sp.map Sp.dst := by rfl)
  (hsz : (ds.all fun d => decide (d < a0.tmps.size)) = true := by rfl) (hnd : ds.Nodup := by decide) (hback : backB2 l = true := by kernel_rfl) (hg : guardsB sp l s = true := by kernel_rfl) (hsl : slotsB l (sp.map Sp.gs) = true := by kernel_rfl)
  (ho : l[s]? = some o := by rfl) (hown : ownS sp 0 s = true := by rfl) (hbi : backIn l = true := by kernel_rfl) (hm : P.follows .mixedOrders = true := by kernel_rfl) :
  (Code.region id L.toArray true).wp P Q a0 w := by
 have hds' : l.filterMap (·.dst) = ds := (filterMap_dst hl).trans hds
 have hs : s < l.length := (List.getElem?_eq_some_iff.1 ho).1
 refine wp_region_aft hi ht htl Rb s ds (sp.map Sp.gs) hds' hsz hnd hback (fun i o ho A x W hA hdep => guards_want hds' hl hg (backIn_spec hbi ho) hsz hA ho hdep) hsl hs hm hw hRb (stayG_of hst) ?_ ?_
 ·refine eachO_map l 0 l (fun i o' ho' h => ?_) hstep
  rw [Nat.zero_add] at h ⊢
  by_cases his : i = s
  ·subst his
   rw [ho] at ho'; obtain rfl := Option.some.inj ho'
   exact .inr ⟨rfl, hstore⟩
  ·refine .inl ⟨?_, fun A x W f hA hR hf hf2 hx hdep K hK => h.resolve_left his A x W f hA hR hf hf2 hx hdep (depG hds' hl (backIn_spec hbi ho') hA hdep) K hK⟩
   obtain ⟨x, hx, hxd⟩ := dst_at hl ho'
   have hx1 := ownS_at hown hx (by rw [Nat.zero_add]; exact his)
   unfold ownB
   rw [List.getElem?_map, hx]
   cases x with
   | v d u => simp [Sp.gs, his, ← hxd, Sp.dst]
   | p d q => simp [Sp.gs, his, ← hxd, Sp.dst]
   | s q => cases hx1
   | f d ds q => cases hx1
 ·intro x W hR hall
  obtain ⟨h1, h2⟩ := endG (a0 := a0) hl hall
  rw [hds'] at h2
  rw [h2]; exact hend x W hR h1
end Go.Proofs.YtchepcilkcdemaaGreat
