/- Lemmas. No condition. -/
import Derived.Test.YtahenngmaoellaaGreatO24
set_option linter.all false
set_option maxRecDepth 100000
set_option maxHeartbeats 0
namespace Go.Proofs.YtahenngmaoellaaGreat
open Go Go.RowKit
variable{l L tail:List Oper}{s i n id:Nat}{o:Oper}{P:Program}{Q:Exit->Act->World->Prop}{a0:Act}{ds:List Tmp}
def qak (l:List Oper)(s:Nat):Nat->Nat->Bool
 | 0,_=>false
 | n+1,i=>match l[i]? with
  | some o=>o.after.any fun e=>Region.binds .any e&&(e.on==s||qak l s n e.on)
  | none=>false
theorem qek {l:List Oper}{s:Nat}{D:Nat->Bool}(I:qbD l D): ∀(n:Nat) {i:Nat},qak l s n i=true->D i=true->D s=true
 | 0,i,h,_=>by cases h
 | n+1,i,h,hD=>by
  unfold qak at h
  cases ho:l[i]? with
  | none=>rw[ho]at h;cases h
  | some o=>
   rw[ho]at h;obtain⟨e,J,G⟩:=Array.any_eq_true'.1 h;rw[Bool.and_eq_true,Bool.or_eq_true,beq_iff_eq]at G;have q:=I i o ho hD e J G.1;rcases G.2 with r|r
   ·rw[<-r];exact q
   ·exact qek I n r q
theorem qjn {D:Nat->Bool}(O:qbD l D)(hi:l[i]? =some o)(G: ∀e∈o.after,Region.binds .any e=true->D e.on=true)(h:qak l s n i=true):D s=true:=by
 cases n with
 | zero=>cases h
 | succ n=>
  unfold qak at h;rw[hi]at h;obtain⟨e,J,I⟩:=Array.any_eq_true'.1 h;rw[Bool.and_eq_true,Bool.or_eq_true,beq_iff_eq]at I;have q:=G e J I.1;rcases I.2 with r|r
  ·rw[<-r];exact q
  ·exact qek O n r q
def qjt (l:List Oper)(W W':World)(s:Nat):Nat->List GS->Prop
 | _,[]=>True
 | n,g::gs=>(n=s\/qak l s l.length n=true\/g.stay W W')/\qjt l W W' s (n+1) gs
theorem qew {l:List Oper}{W W':World}{s:Nat}: ∀{gs:List GS} {n:Nat},qjt l W W' s n gs-> ∀{j:Nat} {g:GS},gs[j]? =some g->n+j≠s->qak l s l.length (n+j)=false->g.stay W W'
 | [],_,_,j,g,h,_,_=>by simp at h
 | _::_,n,hs,0,g,h,hne,ha=>by
  simp at h;subst h
  rcases hs.1 with o|o|o
  ·exact absurd o (by simpa using hne)
  ·rw[Nat.add_zero,o]at ha;cases ha
  ·exact o
 | _::gs,n,hs,j+1,g,h,hne,ha=>qew (gs:=gs) hs.2 (by simpa using h) (by omega) (by rw[show n+1+j=n+(j+1) by omega];exact ha)
def qkx (P:Program)(l:List Oper)(ds:List Tmp)(a0:Act)(Rb:Bool->World->Prop)(s:Nat)(gs:List GS)(Q:Exit->Act->World->Prop)(i:Nat)(o:Oper):Prop:=
 ∀(A:Act) (x:Tmp->Value) (W:World) (f:Bool),ZR a0 x ds A->Rb f W->(ZT l s i=true->f=false)->(qak l s l.length i=true->f=true)->(∀j oj d,l[j]? =some oj->oj.dst=some d->qak l i l.length j=true->x d=a0.tmps.getD d undef)->(∀e∈o.after,Region.binds .any e=true->yl l gs x W e.on)->
  ∀K:Act->World->Prop,(∀v W',Below W.heap.size W W'->qcT gs i v W'->K (A.put o.dst v) W')->Oper.wp P o A W K Q
def qjq (P:Program)(l:List Oper)(ds:List Tmp)(a0:Act)(Rb:Bool->World->Prop)(s:Nat)(gs:List GS)(Q:Exit->Act->World->Prop)(o:Oper):Prop:=
 ∀(A:Act) (x:Tmp->Value) (W:World),ZR a0 x ds A->Rb false W->(∀j oj d,l[j]? =some oj->oj.dst=some d->qak l s l.length j=true->x d=a0.tmps.getD d undef)->(∀e∈o.after,Region.binds .any e=true->yl l gs x W e.on)->
  ∀K:Act->World->Prop,(∀v W',(o.dst=none->v=undef)->Rb true W'->qjt l W W' s 0 gs->atG gs s x v W'->K (A.put o.dst v) W')->Oper.wp P o A W K Q
theorem qcE {w:World}(hi:L.take n=l)(ht:L.drop n=tail)(az:jn .any l tail=true)(Rb:Bool->World->Prop)(s:Nat)(ds:List Tmp)(gs:List GS)(aG:l.filterMap (·.dst)=ds)(aw:(ds.all fun d=>decide (d<a0.tmps.size))=true)(aB:ds.Nodup)(G:YP l=true)
  (ak: ∀i o,l[i]? =some o-> ∀(A:Act) (x:Tmp->Value) (W:World),ZR a0 x ds A->(∀e∈o.after,Region.binds .any e=true->yl l gs x W e.on)->Region.wanted o (yielded l.toArray A.tmps)=true\/(Region.wanted o (yielded l.toArray A.tmps)=false/\qcU gs s i o=true/\ ∀W,qcT gs i undef W)) (ao:qat l gs=true) (hs:s<l.length) (hm:P.follows .mixedOrders=true) (hw:Rb false w.drew) (ay: ∀f W W',Rb f W->Below W.heap.size W W'->Rb f W') (aE:qfK gs)
  (al:yG (fun i o=>(qcU gs s i o=true/\qkx P l ds a0 Rb s gs (Qa P l tail Q) i o)\/(i=s/\qjq P l ds a0 Rb s gs (Qa P l tail Q) o)) 0 l)
  (aq: ∀(x:Tmp->Value) (W:World),Rb true W->yG (fun i _=>yl l gs x W i) 0 l->Qa P l tail Q .normal (lay a0 x ds) W):
  (Code.region id L.toArray true).wp P Q a0 w:=by
 have hL:L=l++tail:=by rw[<-hi,<-ht];exact(List.take_append_drop _ _).symm
 clear hi ht;subst hL;subst aG;have ar:=hs;refine wp_region_any hm ?_;have eL:(l++tail).toArray.size=l.length+tail.length:=by simp
 rw[eL];refine z7 tail l az ?_;have H:=qc0 (P:=P) (ops:=l) (a0:=a0) (Q:=Qa P l tail Q) (R:=fun D x W=>(Rb (D s) W/\ ∀i,D i=true->yl l gs x W i)/\ ∀j U d,l[j]? =some U->U.dst=some d->D j=false->x d=a0.tmps.getD d undef) aB G (fun i o hi D x W ac ae ad hC K aA=>by
   have hR:=ac.1;have am: ∀j U d,l[j]? =some U->U.dst=some d->qak l i l.length j=true->x d=a0.tmps.getD d undef:=fun j U d hj S ha=>ac.2 j U d hj S (by
    cases h:D j with
    | false=>rfl
    | true=>have:=qek hC l.length ha h;rw[ae]at this;cases this)
   have hK: ∀v W',(Rb (setD D i s) W'/\ ∀j,setD D i j=true->yl l gs (Yg x o.dst v) W' j)->K ((lay a0 x (l.filterMap (·.dst))).put o.dst v) W':=fun v W' h=>aA v W' ⟨h,fun j U d hj S O=>by
    have h1:D j=false/\j≠i:=by simpa [setD] using O
    rw[<-ac.2 j U d hj S h1.1];unfold Yg
    cases hdo:o.dst with
    | none=>rfl
    | some d'=>
     have:d≠d':=by
      rintro rfl
      exact h1.2 ((QF G hi).2 j U d hj hdo S)
     simp[upd,this]⟩
   have hL:ZR a0 x (l.filterMap (·.dst)) (lay a0 x (l.filterMap (·.dst))):=J9 (fun d S=>of_decide_eq_true (List.all_eq_true.1 aw d S));have aa: ∀(j:Nat) (v:Value) (W':World),j≠i->D j=true->(∀g,gs[j]? =some g->g.stay W W')->yl l gs (Yg x o.dst v) W' j:=fun j v W' I O Y=>by
    have X:=hR.2 j O;unfold yl at X⊢
    cases hgj:gs[j]? with
    | none=>trivial
    | some g=>
     cases ab:l[j]? with
     | none=>cases g<;>trivial
     | some U=>
      rw[hgj,ab]at X
      cases g with
      | own q=>
       show q (qM (Yg x o.dst v) U) W'
       rw[qbR G hi ab I];exact Y _ hgj _ X
      | far dl q=>
       show q (dl.map (Yg x o.dst v)) W'
       have e:dl.map (Yg x o.dst v)=dl.map x:=by
        refine List.map_congr_left fun d S=>?_
        unfold Yg
        cases hdo:o.dst with
        | none=>rfl
        | some d'=>
         have:d≠d':=by
          rintro rfl
          obtain⟨e,Z,J,oe,ag,ai⟩:=Zn ao ab hgj S;have h1:=(QF G hi).2 e.on oe d ag hdo ai;have h2:=hC j U ab O e Z J;rw[h1,ae]at h2
          cases h2
         simp[upd,this]
       rw[e];exact Y _ hgj _ X
   have af:qcU gs s i o=true-> ∀v W',Below W.heap.size W W'->qcT gs i v W'->K ((lay a0 x (l.filterMap (·.dst))).put o.dst v) W':=fun r v W' an V=>by
    unfold qcU at r;simp only[Bool.and_eq_true,bne_iff_ne]at r;refine hK v W' ⟨?_,fun j hj=>?_⟩
    ·have e:setD D i s=D s:=by
      have:(s==i)=false:=by rw[beq_eq_false_iff_ne];exact Ne.symm r.1.2
      simp[setD,this]
     rw[e];exact ay _ _ _ hR.1 an
    ·by_cases I:j=i
     ·subst I;unfold yl;unfold qcT at V
      cases hgj:gs[j]? with
      | none=>trivial
      | some g=>
       rw[hgj]at V r;rw[hi]
       cases g with
       | own q=>
        obtain⟨d,S⟩:=Option.isSome_iff_exists.1 r.2;have:qM (Yg x o.dst v) o=v:=by unfold qM Yg;rw[S];simp[upd]
        show q (qM (Yg x o.dst v) o) W'
        rw[this];exact V
       | far dl q=>simp at r
     ·have O:D j=true:=by
       have J:(j==i)=false:=by rw[beq_eq_false_iff_ne];exact I
       simpa [setD,J] using hj
      exact aa j v W' I O fun g ah=>qbN aE ah W W' an
   rcases ak i o hi _ x W hL (fun e Z J=>hR.2 _ (ad e Z J))with hw|⟨hw,r,ap⟩
   ·rw[if_pos hw];rcases YO al i o hi with⟨r,hG⟩|⟨rfl,hS⟩
    ·refine hG _ x W (D s) hL hR.1 (fun aC=>?_) (fun au=>qjn hC hi ad au) am (fun e Z J=>hR.2 _ (ad e Z J)) K (af r);obtain⟨o',ax,e,Z,J,aF⟩:=ji aC
     cases hDs:D s with
     | false=>rfl
     | true=>
      have:=hC s o' ax hDs e Z J
      rw[aF,ae]at this;cases this
    ·refine hS _ x W hL (ae▸hR.1) am (fun e Z J=>hR.2 _ (ad e Z J)) K (fun v W' hv av Y V=>?_);refine hK v W' ⟨?_,fun j hj=>?_⟩
     ·have:setD D i i=true:=by simp[setD]
      rw[this];exact av
     ·by_cases I:j=i
      ·subst I;unfold yl;unfold atG at V
       cases hgj:gs[j]? with
       | none=>trivial
       | some g=>
        rw[hgj]at V;rw[hi]
        cases g with
        | own q=>
         show q (qM (Yg x o.dst v) o) W'
         have:qM (Yg x o.dst v) o=v:=by
          unfold qM Yg
          cases S:o.dst with
          | none=>exact(hv S).symm
          | some d=>simp[upd]
         rw[this];exact V
        | far dl q=>
         show q (dl.map (Yg x o.dst v)) W'
         have e:dl.map (Yg x o.dst v)=dl.map x:=by
          refine List.map_congr_left fun d S=>?_
          unfold Yg
          cases hdo:o.dst with
          | none=>rfl
          | some d'=>
           have:d≠d':=by
            rintro rfl
            obtain⟨e,Z,J,oe,ag,ai⟩:=Zn ao hi hgj S;have h1:=(QF G hi).2 e.on oe d ag hdo ai;have h2:=(QF G hi).1 e Z J;omega
           simp[upd,this]
         rw[e];exact V
      ·have O:D j=true:=by
        have J:(j==i)=false:=by rw[beq_eq_false_iff_ne];exact I
        simpa [setD,J] using hj
       exact aa j v W' I O fun g ah=>qew Y ah (by simpa using I) (by
        rw[Nat.zero_add]
        cases ha:qak l i l.length j with
        | false=>rfl
        | true=>have:=qek hC l.length ha O;rw[ae]at this;cases this)
   ·rw[if_neg (by rw[hw];decide)];exact af r undef W Br (ap W))
  (fun D x W ac hD=>aq x W (hD s▸ac.1.1) (by
   have: ∀(m:List Oper) (n:Nat),yG (fun i _=>yl l gs x W i) n m:=by
    intro m;induction m with
    | nil=>intro n;trivial
    | cons o m ih=>intro n;exact⟨ac.1.2 n (hD n),ih (n+1)⟩
   exact this l 0))
  l.length (Array.replicate l.length false) (fun d=>a0.tmps.getD d undef) w.drew (by simp) (by
   simp only[Array.toList_replicate,jm,List.countP_replicate];simp) ⟨⟨by
    have:(Array.replicate l.length false).getD s true=false:=by simp[Lh,ar]
    show Rb ((Array.replicate l.length false).getD s true) w.drew
    rw[this];exact hw,fun i hi=>by
    have aH: ¬i<l.length:=fun aj=>by simp[Lh,aj]at hi
    unfold yl;rw[List.getElem?_eq_none (l:=l) (by omega)]
    cases gs[i]? with
    | none=>trivial
    | some g=>cases g<;>trivial⟩,fun _ _ _ _ _ _=>rfl⟩ (fun j U aD ab=>by
    have aj:j<l.length:=(List.getElem?_eq_some_iff.1 aD).1;simp[Lh,aj]at ab)
 rw[Ja]at H;exact H
def qck (sp:List Sp)(o:Oper):Option Bool:=match o.guard with
 | none=>some true
 | some (j,want)=>match sp[j]? with
  | some (.v _ (.bool b))=>if(o.after.any fun e=>e.on==j&&Region.binds .any e)=true then some (b==want) else none
  | _=>none
def js:Option Sp->Bool
 | some (.v _ (.tuple a))=>a.size==0
 | _=>false
def qhf (sp:List Sp)(l:List Oper)(s:Nat):Bool:=(List.range l.length).all fun i=>match l[i]? with
 | some o=>(match qck sp o with|some true=>true|some false=>js sp[i]? &&i != s&&o.dst.isSome|none=>false)
 | none=>true
theorem qfm {sp:List Sp}{A:Act}{x:Tmp->Value}{W:World}(ae:l.filterMap (·.dst)=ds)(hl:l.map (·.dst)=sp.map Sp.dst)(hg:qhf sp l s=true)(ac: ∀e∈o.after,e.on<l.length)(af:(ds.all fun d=>decide (d<a0.tmps.size))=true)(hA:ZR a0 x ds A)(hi:l[i]? =some o)
  (aa: ∀e∈o.after,Region.binds .any e=true->yl l (sp.map Sp.gs) x W e.on):Region.wanted o (yielded l.toArray A.tmps)=true\/(Region.wanted o (yielded l.toArray A.tmps)=false/\qcU (sp.map Sp.gs) s i o=true/\ ∀W,qcT (sp.map Sp.gs) i undef W):=by
 have D:(match qck sp o with|some true=>true|some false=>js sp[i]? &&i != s&&o.dst.isSome|none=>false)=true:=by
  have D:=List.all_eq_true.1 hg i (List.mem_range.2 (List.getElem?_eq_some_iff.1 hi).1);rw[hi]at D;exact D
 cases hgd:o.guard with
 | none=>exact .inl (by simp[Region.wanted,hgd])
 | some jw=>
  obtain⟨j,G⟩:=jw;have r:qck sp o=match sp[j]? with
   | some (.v _ (.bool b))=>if(o.after.any fun e=>e.on==j&&Region.binds .any e)=true then some (b==G) else none
   | _=>none:=by unfold qck;rw[hgd]
  cases hsj:sp[j]? with
  | none=>rw[r,hsj]at D;cases D
  | some sj=>
   rw[hsj]at r;match sj,hsj,r with
   | .p _ _,_,r=>rw[r]at D;cases D
   | .s _,_,r=>rw[r]at D;cases D
   | .f _ _ _,_,r=>rw[r]at D;cases D
   | .v d u,hsj,r=>
    cases u with
    | bool b=>
     have I:qck sp o=if(o.after.any fun e=>e.on==j&&Region.binds .any e)=true then some (b==G) else none:=r
     by_cases V:(o.after.any fun e=>e.on==j&&Region.binds .any e)=true
     ·rw[if_pos V]at I;obtain⟨e,he,X⟩:=Array.any_eq_true'.1 V;rw[Bool.and_eq_true,beq_iff_eq]at X;have O:=aa e he X.2;have Z:=ac e he;rw[X.1]at O Z;obtain⟨U,S⟩: ∃U,l[j]? =some U:=⟨_,List.getElem?_eq_getElem Z⟩;obtain⟨s2,Y,ab⟩:=qaN hl S;rw[hsj]at Y;obtain rfl:=Option.some.inj Y;rw[qaL hsj S]at O;have hd:U.dst=some d:=ab.symm;have hv:qM x U=x d:=by unfold qM;rw[hd]
      have hx:x d= .bool b:=by rw[<-hv];exact O
      have hm:d∈ds:=by rw[<-ae];exact J6 S hd
      have J:A.tmps.getD d undef= .bool b:=(hA.1 d hm).trans hx;have ad:A.tmps[d]? =some (.bool b):=by
       rw[Lh]at J
       cases h:A.tmps[d]? with
       | none=>rw[h]at J;exact absurd J (by intro e;cases e)
       | some v=>rw[h]at J;exact congrArg some J
      have hy:yielded l.toArray A.tmps j=some b:=by
       unfold yielded;have:l.toArray[j]? =some U:=by simpa using S
       rw[this];show(match(U.dst).bind (A.tmps[·]?)with|some (.bool b)=>some b|_=>none)=some b
       rw[hd];show(match A.tmps[d]? with|some (.bool b)=>some b|_=>none)=some b
       rw[ad]
      have hw:Region.wanted o (yielded l.toArray A.tmps)=(b==G):=by
       unfold Region.wanted;rw[hgd];show(yielded l.toArray A.tmps j==some G)=_
       rw[hy];rfl
      rw[I]at D
      cases hbw:(b==G)with
      | true=>exact .inl (by rw[hw,hbw])
      | false=>
       rw[hbw]at D;have q:(js sp[i]? &&i != s&&o.dst.isSome)=true:=D;rw[Bool.and_eq_true,Bool.and_eq_true]at q;refine .inr ⟨by rw[hw,hbw],?_,fun W=>?_⟩
       ·unfold qcU;rw[List.getElem?_map]
        cases hsi:sp[i]? with
        | none=>rw[hsi]at q;exact absurd q.1.1 (by decide)
        | some si=>
         rw[hsi]at q;match si,q with
         | .v d u,q=>simp only[Option.map_some,Sp.gs,Bool.true_and];rw[q.1.2,q.2];rfl
         | .p _ _,q=>exact absurd q.1.1 (by simp[js])
         | .s _,q=>exact absurd q.1.1 (by simp[js])
         | .f _ _ _,q=>exact absurd q.1.1 (by simp[js])
       ·unfold qcT;rw[List.getElem?_map]
        cases hsi:sp[i]? with
        | none=>trivial
        | some si=>
         rw[hsi]at q;match si,q with
         | .v d (.tuple a),q=>
          have:a= #[]:=Array.eq_empty_of_size_eq_zero (by simpa [js] using q.1.1)
          subst this;rfl
         | .v d (.bool _),q=>exact absurd q.1.1 (by simp[js])
         | .p _ _,q=>exact absurd q.1.1 (by simp[js])
         | .s _,q=>exact absurd q.1.1 (by simp[js])
         | .f _ _ _,q=>exact absurd q.1.1 (by simp[js])
     ·rw[if_neg V]at I;rw[I]at D;cases D
    | _=>rw[r]at D;cases D
def qj8 (P:Program)(l:List Oper)(ds:List Tmp)(a0:Act)(Rb:Bool->World->Prop)(s:Nat)(sp:List Sp)(i:Nat)(Q:Exit->Act->World->Prop)(o:Oper):Prop:=
 ∀(A:Act) (x:Tmp->Value) (W:World) (f:Bool),ZR a0 x ds A->Rb f W->(ZT l s i=true->f=false)->(qak l s l.length i=true->f=true)->(∀j oj d,l[j]? =some oj->oj.dst=some d->qak l i l.length j=true->x d=a0.tmps.getD d undef)->(∀e∈o.after,Region.binds .any e=true->yl l (sp.map Sp.gs) x W e.on)->QS sp A W o.after.toList->
  ∀K:Act->World->Prop,(∀v W',Below W.heap.size W W'->qcT (sp.map Sp.gs) i v W'->K (A.put o.dst v) W')->Oper.wp P o A W K Q
theorem qdC {w:World}(I:Bool->World->Prop)(s:Nat)(sp:List Sp)(al:qbl sp)(hw:I false w.drew)(ah: ∀f W W',I f W->Below W.heap.size W W'->I f W')
  (X:yG (fun i o=>i=s\/qj8 P l ds a0 I s sp i (Qa P l tail Q) o) 0 l)
  (U:qjq P l ds a0 I s (sp.map Sp.gs) (Qa P l tail Q) o)
  (af: ∀(x:Tmp->Value) (W:World),I true W->qby x W sp->Qa P l tail Q .normal (QG a0 x sp) W)
  (hi:L.take n=l:=by dsimp only[List.take]) (ht:L.drop n=tail:=by dsimp only[List.drop]) (aj:jn .any l tail=true:=by kernel_rfl) (an:sp.filterMap Sp.dst=ds:=by dsimp only[List.filterMap,Sp.dst]) (S:l.map (·.dst)=sp.map Sp.dst:=by rfl)
  (ad:(ds.all fun d=>decide (d<a0.tmps.size))=true:=by rfl) (ai:ds.Nodup:=by decide) (V:YP l=true:=by kernel_rfl) (hg:qhf sp l s=true:=by kernel_rfl) (am:qat l (sp.map Sp.gs)=true:=by kernel_rfl)
  (O:l[s]? =some o:=by rfl) (ae:qgo sp 0 s=true:=by rfl) (ab:qaS l=true:=by kernel_rfl) (hm:P.follows .mixedOrders=true:=by kernel_rfl):
  (Code.region id L.toArray true).wp P Q a0 w:=by
 have r:l.filterMap (·.dst)=ds:=(YG S).trans an;have hs:s<l.length:=(List.getElem?_eq_some_iff.1 O).1;refine qcE hi ht aj I s ds (sp.map Sp.gs) r ad ai V (fun i o O A x W Y D=>qfm r S hg (zI ab O) ad Y O D) am hs hm hw ah (ZH al) ?_ ?_
 ·refine ZP l 0 l (fun i o' J h=>?_) X;rw[Nat.zero_add]at h⊢;by_cases G:i=s
  ·subst G;rw[O]at J;obtain rfl:=Option.some.inj J;exact .inr ⟨rfl,U⟩
  ·refine .inl ⟨?_,fun A x W f Y hR hf ak Z D K hK=>h.resolve_left G A x W f Y hR hf ak Z D (depG r S (zI ab J) Y D) K hK⟩;obtain⟨x,Z,ac⟩:=qaN S J;have aa:=qd4 ae Z (by rw[Nat.zero_add];exact G);unfold qcU;rw[List.getElem?_map,Z]
   cases x with
   | v d u=>simp[Sp.gs,G,<-ac,Sp.dst]
   | p d q=>simp[Sp.gs,G,<-ac,Sp.dst]
   | s q=>cases aa
   | f d ds q=>cases aa
 ·intro x W hR ag;obtain⟨h1,h2⟩:=endG (a0:=a0) S ag;rw[r]at h2;rw[h2];exact af x W hR h1
