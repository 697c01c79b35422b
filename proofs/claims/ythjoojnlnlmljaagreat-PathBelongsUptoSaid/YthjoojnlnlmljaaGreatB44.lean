/- A region that draws its order, one operation of which changes memory: what waits for it comes behind it. No condition. -/
import Derived.Test.YthjoojnlnlmljaaGreatB24
set_option linter.all false
set_option maxRecDepth 100000
set_option maxHeartbeats 8000000
namespace Go.Proofs.YthjoojnlnlmljaaGreat
open Go Go.RowKit
def Jb (l:List Oper)(s:Nat):Nat→Nat→Bool
 | 0,_=>false
 | n+1,i=>match l[i]? with
  | some o=>o.after.any fun e=>Region.binds .any e&&(e.on==s||Jb l s n e.on)
  | none=>false
theorem qce {l:List Oper}{s:Nat}{D:Nat→Bool}(I:qbp l D): ∀(n:Nat) {i:Nat},Jb l s n i=true→D i=true→D s=true
 | 0,i,h,_=>by cases h
 | n+1,i,h,hD=>by
  unfold Jb at h
  cases ho:l[i]? with
  | none=>rw[ho]at h;cases h
  | some o=>
   rw[ho]at h;obtain⟨e,J,G⟩:=Array.any_eq_true'.1 h;rw[Bool.and_eq_true,Bool.or_eq_true,beq_iff_eq]at G;have q:=I i o ho hD e J G.1;rcases G.2 with r|r
   ·rw[←r];exact q
   ·exact qce I n r q
theorem qi0 {l:List Oper}{s i:Nat}{o:Oper}{D:Nat→Bool}(J:qbp l D)(hi:l[i]? =some o)(I: ∀e∈o.after,Region.binds .any e=true→D e.on=true){n:Nat}(h:Jb l s n i=true):D s=true:=by
 cases n with
 | zero=>cases h
 | succ n=>
  unfold Jb at h;rw[hi]at h;obtain⟨e,O,G⟩:=Array.any_eq_true'.1 h;rw[Bool.and_eq_true,Bool.or_eq_true,beq_iff_eq]at G;have q:=I e O G.1;rcases G.2 with r|r
  ·rw[←r];exact q
  ·exact qce J n r q
def qi6 (l:List Oper)(W W':World)(s:Nat):Nat→List GS→Prop
 | _,[]=>True
 | n,g::gs=>(n=s∨Jb l s l.length n=true∨g.stay W W')∧qi6 l W W' s (n+1) gs
theorem qeg {l:List Oper}{W W':World}{s:Nat}: ∀{gs:List GS} {n:Nat},qi6 l W W' s n gs→ ∀{j:Nat} {g:GS},gs[j]? =some g→n+j≠s→Jb l s l.length (n+j)=false→g.stay W W'
 | [],_,_,j,g,h,_,_=>by simp at h
 | _::_,n,hs,0,g,h,hne,ha=>by
  simp at h;subst h
  rcases hs.1 with o|o|o
  ·exact absurd o (by simpa using hne)
  ·rw[Nat.add_zero,o]at ha;cases ha
  ·exact o
 | _::gs,n,hs,j+1,g,h,hne,ha=>qeg (gs:=gs) hs.2 (by simpa using h) (by omega) (by rw[show n+1+j=n+(j+1) by omega];exact ha)
def qj9 (P:Program)(l:List Oper)(ds:List Tmp)(a0:Act)(Rb:Bool→World→Prop)(s:Nat)(gs:List GS)(Q:Exit→Act→World→Prop)(i:Nat)(o:Oper):Prop:=
 ∀(A:Act) (x:Tmp→Value) (W:World) (f:Bool),ZU a0 x ds A→Rb f W→(Jb l i l.length s=true→f=false)→(Jb l s l.length i=true→f=true)→(∀j oj d,l[j]? =some oj→oj.dst=some d→Jb l i l.length j=true→x d=a0.tmps.getD d undef)→(∀e∈o.after,Region.binds .any e=true→yg l gs x W e.on)→
  ∀K:Act→World→Prop,(∀v W',Below W.heap.size W W'→qcA gs i v W'→K (A.put o.dst v) W')→Oper.wp P o A W K Q
def qi3 (P:Program)(l:List Oper)(ds:List Tmp)(a0:Act)(Rb:Bool→World→Prop)(s:Nat)(gs:List GS)(Q:Exit→Act→World→Prop)(o:Oper):Prop:=
 ∀(A:Act) (x:Tmp→Value) (W:World),ZU a0 x ds A→Rb false W→(∀j oj d,l[j]? =some oj→oj.dst=some d→Jb l s l.length j=true→x d=a0.tmps.getD d undef)→(∀e∈o.after,Region.binds .any e=true→yg l gs x W e.on)→
  ∀K:Act→World→Prop,(∀v W',(o.dst=none→v=undef)→Rb true W'→qi6 l W W' s 0 gs→atG gs s x v W'→K (A.put o.dst v) W')→Oper.wp P o A W K Q
theorem qcn {P:Program}{id:Nat}{w:World}{Q:Exit→Act→World→Prop}{a0:Act}{L l tail:List Oper}{n:Nat}(hi:L.take n=l)(ht:L.drop n=tail)(ar:Z9 .any l tail=true)(Rb:Bool→World→Prop)(s:Nat)(ds:List Tmp)(gs:List GS)(aD:l.filterMap (·.dst)=ds)(ax:(ds.all fun d=>decide (d<a0.tmps.size))=true)(aw:ds.Nodup)(G:YE l=true)
  (ak: ∀i o,l[i]? =some o→ ∀(A:Act) (x:Tmp→Value) (W:World),ZU a0 x ds A→(∀e∈o.after,Region.binds .any e=true→yg l gs x W e.on)→Region.wanted o (yielded l.toArray A.tmps)=true∨(Region.wanted o (yielded l.toArray A.tmps)=false∧qcB gs s i o=true∧ ∀W,qcA gs i undef W)) (am:qae l gs=true) (hs:s<l.length) (hm:P.follows .mixedOrders=true) (hw:Rb false w.drew) (av: ∀f W W',Rb f W→Below W.heap.size W W'→Rb f W') (az:qfp gs)
  (aj:yy (fun i o=>(qcB gs s i o=true∧qj9 P l ds a0 Rb s gs (Qa P l tail Q) i o)∨(i=s∧qi3 P l ds a0 Rb s gs (Qa P l tail Q) o)) 0 l)
  (aq: ∀(x:Tmp→Value) (W:World),Rb true W→yy (fun i _=>yg l gs x W i) 0 l→Qa P l tail Q .normal (lay a0 x ds) W):
  (Code.region id L.toArray true).wp P Q a0 w:=by
 have hL:L=l++tail:=by rw[←hi,←ht];exact(List.take_append_drop _ _).symm
 clear hi ht;subst hL;subst aD;have ap:=hs;refine wp_region_any hm ?_;have eL:(l++tail).toArray.size=l.length+tail.length:=by simp
 rw[eL];refine zP tail l ar ?_;have H:=qcI (P:=P) (ops:=l) (a0:=a0) (Q:=Qa P l tail Q) (R:=fun D x W=>(Rb (D s) W∧ ∀i,D i=true→yg l gs x W i)∧ ∀j J d,l[j]? =some J→J.dst=some d→D j=false→x d=a0.tmps.getD d undef) aw G (fun i o hi D x W ab ad ac hC K aA=>by
   have hR:=ab.1;have an: ∀j J d,l[j]? =some J→J.dst=some d→Jb l i l.length j=true→x d=a0.tmps.getD d undef:=fun j J d hj O ha=>ab.2 j J d hj O (by
    cases h:D j with
    | false=>rfl
    | true=>have:=qce hC l.length ha h;rw[ad]at this;cases this)
   have hK: ∀v W',(Rb (setD D i s) W'∧ ∀j,setD D i j=true→yg l gs (Ya x o.dst v) W' j)→K ((lay a0 x (l.filterMap (·.dst))).put o.dst v) W':=fun v W' h=>aA v W' ⟨h,fun j J d hj O S=>by
    have h1:D j=false∧j≠i:=by simpa [setD] using S
    rw[←ab.2 j J d hj O h1.1];unfold Ya
    cases hdo:o.dst with
    | none=>rfl
    | some d'=>
     have:d≠d':=by
      rintro rfl
      exact h1.2 ((QF G hi).2 j J d hj hdo O)
     simp[upd,this]⟩
   have hL:ZU a0 x (l.filterMap (·.dst)) (lay a0 x (l.filterMap (·.dst))):=JV (fun d O=>of_decide_eq_true (List.all_eq_true.1 ax d O));have Z: ∀(j:Nat) (v:Value) (W':World),j≠i→D j=true→(∀g,gs[j]? =some g→g.stay W W')→yg l gs (Ya x o.dst v) W' j:=fun j v W' I S X=>by
    have Y:=hR.2 j S;unfold yg at Y⊢
    cases hgj:gs[j]? with
    | none=>trivial
    | some g=>
     cases aa:l[j]? with
     | none=>cases g<;>trivial
     | some J=>
      rw[hgj,aa]at Y
      cases g with
      | own q=>
       show q (qL (Ya x o.dst v) J) W'
       rw[qbB G hi aa I];exact X _ hgj _ Y
      | far dl q=>
       show q (dl.map (Ya x o.dst v)) W'
       have e:dl.map (Ya x o.dst v)=dl.map x:=by
        refine List.map_congr_left fun d O=>?_
        unfold Ya
        cases hdo:o.dst with
        | none=>rfl
        | some d'=>
         have:d≠d':=by
          rintro rfl
          obtain⟨e,he,U,oe,ai,af⟩:=Za am aa hgj O;have h1:=(QF G hi).2 e.on oe d ai hdo af;have h2:=hC j J aa S e he U;rw[h1,ad]at h2
          cases h2
         simp[upd,this]
       rw[e];exact X _ hgj _ Y
   have ae:qcB gs s i o=true→ ∀v W',Below W.heap.size W W'→qcA gs i v W'→K ((lay a0 x (l.filterMap (·.dst))).put o.dst v) W':=fun r v W' al V=>by
    unfold qcB at r;simp only[Bool.and_eq_true,bne_iff_ne]at r;refine hK v W' ⟨?_,fun j hj=>?_⟩
    ·have e:setD D i s=D s:=by
      have:(s==i)=false:=by rw[beq_eq_false_iff_ne];exact Ne.symm r.1.2
      simp[setD,this]
     rw[e];exact av _ _ _ hR.1 al
    ·by_cases I:j=i
     ·subst I;unfold yg;unfold qcA at V
      cases hgj:gs[j]? with
      | none=>trivial
      | some g=>
       rw[hgj]at V r;rw[hi]
       cases g with
       | own q=>
        obtain⟨d,O⟩:=Option.isSome_iff_exists.1 r.2;have:qL (Ya x o.dst v) o=v:=by unfold qL Ya;rw[O];simp[upd]
        show q (qL (Ya x o.dst v) o) W'
        rw[this];exact V
       | far dl q=>simp at r
     ·have S:D j=true:=by
       have U:(j==i)=false:=by rw[beq_eq_false_iff_ne];exact I
       simpa [setD,U] using hj
      exact Z j v W' I S fun g ah=>qbz az ah W W' al
   rcases ak i o hi _ x W hL (fun e he U=>hR.2 _ (ac e he U))with hw|⟨hw,r,ao⟩
   ·rw[if_pos hw];rcases YD aj i o hi with⟨r,hG⟩|⟨rfl,hS⟩
    ·refine hG _ x W (D s) hL hR.1 (fun aC=>?_) (fun ay=>qi0 hC hi ac ay) an (fun e he U=>hR.2 _ (ac e he U)) K (ae r)
     cases hDs:D s with
     | false=>rfl
     | true=>have:=qce hC l.length aC hDs;rw[ad]at this;cases this
    ·refine hS _ x W hL (ad▸hR.1) an (fun e he U=>hR.2 _ (ac e he U)) K (fun v W' hv au X V=>?_);refine hK v W' ⟨?_,fun j hj=>?_⟩
     ·have:setD D i i=true:=by simp[setD]
      rw[this];exact au
     ·by_cases I:j=i
      ·subst I;unfold yg;unfold atG at V
       cases hgj:gs[j]? with
       | none=>trivial
       | some g=>
        rw[hgj]at V;rw[hi]
        cases g with
        | own q=>
         show q (qL (Ya x o.dst v) o) W'
         have:qL (Ya x o.dst v) o=v:=by
          unfold qL Ya
          cases O:o.dst with
          | none=>exact(hv O).symm
          | some d=>simp[upd]
         rw[this];exact V
        | far dl q=>
         show q (dl.map (Ya x o.dst v)) W'
         have e:dl.map (Ya x o.dst v)=dl.map x:=by
          refine List.map_congr_left fun d O=>?_
          unfold Ya
          cases hdo:o.dst with
          | none=>rfl
          | some d'=>
           have:d≠d':=by
            rintro rfl
            obtain⟨e,he,U,oe,ai,af⟩:=Za am hi hgj O;have h1:=(QF G hi).2 e.on oe d ai hdo af;have h2:=(QF G hi).1 e he U;omega
           simp[upd,this]
         rw[e];exact V
      ·have S:D j=true:=by
        have U:(j==i)=false:=by rw[beq_eq_false_iff_ne];exact I
        simpa [setD,U] using hj
       exact Z j v W' I S fun g ah=>qeg X ah (by simpa using I) (by
        rw[Nat.zero_add]
        cases ha:Jb l i l.length j with
        | false=>rfl
        | true=>have:=qce hC l.length ha S;rw[ad]at this;cases this)
   ·rw[if_neg (by rw[hw];decide)];exact ae r undef W Br (ao W))
  (fun D x W ab hD=>aq x W (hD s▸ab.1.1) (by
   have: ∀(m:List Oper) (n:Nat),yy (fun i _=>yg l gs x W i) n m:=by
    intro m;induction m with
    | nil=>intro n;trivial
    | cons o m ih=>intro n;exact⟨ab.1.2 n (hD n),ih (n+1)⟩
   exact this l 0))
  l.length (Array.replicate l.length false) (fun d=>a0.tmps.getD d undef) w.drew (by simp) (by
   simp only[Array.toList_replicate,Z7,List.countP_replicate];simp) ⟨⟨by
    have:(Array.replicate l.length false).getD s true=false:=by simp[Lh,ap]
    show Rb ((Array.replicate l.length false).getD s true) w.drew
    rw[this];exact hw,fun i hi=>by
    have aE: ¬i<l.length:=fun ag=>by simp[Lh,ag]at hi
    unfold yg;rw[List.getElem?_eq_none (l:=l) (by omega)]
    cases gs[i]? with
    | none=>trivial
    | some g=>cases g<;>trivial⟩,fun _ _ _ _ _ _=>rfl⟩ (fun j J aB aa=>by
    have ag:j<l.length:=(List.getElem?_eq_some_iff.1 aB).1;simp[Lh,ag]at aa)
 rw[jR]at H;exact H
def qb2 (sp:List Sp)(o:Oper):Option Bool:=match o.guard with
 | none=>some true
 | some (j,want)=>match sp[j]? with
  | some (.v _ (.bool b))=>if(o.after.any fun e=>e.on==j&&Region.binds .any e)=true then some (b==want) else none
  | _=>none
def je:Option Sp→Bool
 | some (.v _ (.tuple a))=>a.size==0
 | _=>false
def qgT (sp:List Sp)(l:List Oper)(s:Nat):Bool:=(List.range l.length).all fun i=>match l[i]? with
 | some o=>(match qb2 sp o with|some true=>true|some false=>je sp[i]? &&i != s&&o.dst.isSome|none=>false)
 | none=>true
theorem qeZ {sp:List Sp}{l:List Oper}{ds:List Tmp}{s i:Nat}{o:Oper}{a0 A:Act}{x:Tmp→Value}{W:World}(ad:l.filterMap (·.dst)=ds)(hl:l.map (·.dst)=sp.map Sp.dst)(hg:qgT sp l s=true)(ae: ∀e∈o.after,e.on<l.length)(af:(ds.all fun d=>decide (d<a0.tmps.size))=true)(hA:ZU a0 x ds A)(hi:l[i]? =some o)
  (ab: ∀e∈o.after,Region.binds .any e=true→yg l (sp.map Sp.gs) x W e.on):Region.wanted o (yielded l.toArray A.tmps)=true∨(Region.wanted o (yielded l.toArray A.tmps)=false∧qcB (sp.map Sp.gs) s i o=true∧ ∀W,qcA (sp.map Sp.gs) i undef W):=by
 have D:(match qb2 sp o with|some true=>true|some false=>je sp[i]? &&i != s&&o.dst.isSome|none=>false)=true:=by
  have D:=List.all_eq_true.1 hg i (List.mem_range.2 (List.getElem?_eq_some_iff.1 hi).1);rw[hi]at D;exact D
 cases hgd:o.guard with
 | none=>exact .inl (by simp[Region.wanted,hgd])
 | some jw=>
  obtain⟨j,G⟩:=jw;have r:qb2 sp o=match sp[j]? with
   | some (.v _ (.bool b))=>if(o.after.any fun e=>e.on==j&&Region.binds .any e)=true then some (b==G) else none
   | _=>none:=by unfold qb2;rw[hgd]
  cases hsj:sp[j]? with
  | none=>rw[r,hsj]at D;cases D
  | some sj=>
   rw[hsj]at r;match sj,hsj,r with
   | .p _ _,_,r=>rw[r]at D;cases D
   | .s _,_,r=>rw[r]at D;cases D
   | .f _ _ _,_,r=>rw[r]at D;cases D
   | .v d u,hsj,r=>
    cases u with
    | bool b=>
     have I:qb2 sp o=if(o.after.any fun e=>e.on==j&&Region.binds .any e)=true then some (b==G) else none:=r
     by_cases X:(o.after.any fun e=>e.on==j&&Region.binds .any e)=true
     ·rw[if_pos X]at I;obtain⟨e,he,V⟩:=Array.any_eq_true'.1 X;rw[Bool.and_eq_true,beq_iff_eq]at V;have O:=ab e he V.2;have Y:=ae e he;rw[V.1]at O Y;obtain⟨U,S⟩: ∃U,l[j]? =some U:=⟨_,List.getElem?_eq_getElem Y⟩;obtain⟨s2,Z,aa⟩:=qaB hl S;rw[hsj]at Z;obtain rfl:=Option.some.inj Z;rw[qaz hsj S]at O;have hd:U.dst=some d:=aa.symm;have hv:qL x U=x d:=by unfold qL;rw[hd]
      have hx:x d= .bool b:=by rw[←hv];exact O
      have hm:d∈ds:=by rw[←ad];exact JS S hd
      have J:A.tmps.getD d undef= .bool b:=(hA.1 d hm).trans hx;have ac:A.tmps[d]? =some (.bool b):=by
       rw[Lh]at J
       cases h:A.tmps[d]? with
       | none=>rw[h]at J;exact absurd J (by intro e;cases e)
       | some v=>rw[h]at J;exact congrArg some J
      have hy:yielded l.toArray A.tmps j=some b:=by
       unfold yielded;have:l.toArray[j]? =some U:=by simpa using S
       rw[this];show(match(U.dst).bind (A.tmps[·]?)with|some (.bool b)=>some b|_=>none)=some b
       rw[hd];show(match A.tmps[d]? with|some (.bool b)=>some b|_=>none)=some b
       rw[ac]
      have hw:Region.wanted o (yielded l.toArray A.tmps)=(b==G):=by
       unfold Region.wanted;rw[hgd];show(yielded l.toArray A.tmps j==some G)=_
       rw[hy];rfl
      rw[I]at D
      cases hbw:(b==G)with
      | true=>exact .inl (by rw[hw,hbw])
      | false=>
       rw[hbw]at D;have q:(je sp[i]? &&i != s&&o.dst.isSome)=true:=D;rw[Bool.and_eq_true,Bool.and_eq_true]at q;refine .inr ⟨by rw[hw,hbw],?_,fun W=>?_⟩
       ·unfold qcB;rw[List.getElem?_map]
        cases hsi:sp[i]? with
        | none=>rw[hsi]at q;exact absurd q.1.1 (by decide)
        | some si=>
         rw[hsi]at q;match si,q with
         | .v d u,q=>simp only[Option.map_some,Sp.gs,Bool.true_and];rw[q.1.2,q.2];rfl
         | .p _ _,q=>exact absurd q.1.1 (by simp[je])
         | .s _,q=>exact absurd q.1.1 (by simp[je])
         | .f _ _ _,q=>exact absurd q.1.1 (by simp[je])
       ·unfold qcA;rw[List.getElem?_map]
        cases hsi:sp[i]? with
        | none=>trivial
        | some si=>
         rw[hsi]at q;match si,q with
         | .v d (.tuple a),q=>
          have:a= #[]:=Array.eq_empty_of_size_eq_zero (by simpa [je] using q.1.1)
          subst this;rfl
         | .v d (.bool _),q=>exact absurd q.1.1 (by simp[je])
         | .p _ _,q=>exact absurd q.1.1 (by simp[je])
         | .s _,q=>exact absurd q.1.1 (by simp[je])
         | .f _ _ _,q=>exact absurd q.1.1 (by simp[je])
     ·rw[if_neg X]at I;rw[I]at D;cases D
    | _=>rw[r]at D;cases D
def qjL (P:Program)(l:List Oper)(ds:List Tmp)(a0:Act)(Rb:Bool→World→Prop)(s:Nat)(sp:List Sp)(i:Nat)(Q:Exit→Act→World→Prop)(o:Oper):Prop:=
 ∀(A:Act) (x:Tmp→Value) (W:World) (f:Bool),ZU a0 x ds A→Rb f W→(Jb l i l.length s=true→f=false)→(Jb l s l.length i=true→f=true)→(∀j oj d,l[j]? =some oj→oj.dst=some d→Jb l i l.length j=true→x d=a0.tmps.getD d undef)→(∀e∈o.after,Region.binds .any e=true→yg l (sp.map Sp.gs) x W e.on)→Q7 sp A W o.after.toList→
  ∀K:Act→World→Prop,(∀v W',Below W.heap.size W W'→qcA (sp.map Sp.gs) i v W'→K (A.put o.dst v) W')→Oper.wp P o A W K Q
theorem qdm {P:Program}{id:Nat}{w:World}{Q:Exit→Act→World→Prop}{a0:Act}{L l tail:List Oper}{n:Nat}{ds:List Tmp}{o:Oper}(I:Bool→World→Prop)(s:Nat)(sp:List Sp)(ah:qa9 sp)(hw:I false w.drew)(ak: ∀f W W',I f W→Below W.heap.size W W'→I f W')
  (Z:yy (fun i o=>i=s∨qjL P l ds a0 I s sp i (Qa P l tail Q) o) 0 l)
  (U:qi3 P l ds a0 I s (sp.map Sp.gs) (Qa P l tail Q) o)
  (ag: ∀(x:Tmp→Value) (W:World),I true W→qbk x W sp→Qa P l tail Q .normal (QP a0 x sp) W)
  (hi:L.take n=l:=by dsimp only[List.take]) (ht:L.drop n=tail:=by dsimp only[List.drop]) (aj:Z9 .any l tail=true:=by kernel_rfl) (ai:sp.filterMap Sp.dst=ds:=by dsimp only[List.filterMap,Sp.dst]) (O:l.map (·.dst)=sp.map Sp.dst:=by rfl)
  (ab:(ds.all fun d=>decide (d<a0.tmps.size))=true:=by rfl) (an:ds.Nodup:=by decide) (Y:YE l=true:=by kernel_rfl) (hg:qgT sp l s=true:=by kernel_rfl) (al:qae l (sp.map Sp.gs)=true:=by kernel_rfl)
  (S:l[s]? =some o:=by rfl) (af:qf1 sp 0 s=true:=by rfl) (aa:qaF l=true:=by kernel_rfl) (hm:P.follows .mixedOrders=true:=by kernel_rfl):
  (Code.region id L.toArray true).wp P Q a0 w:=by
 have D:l.filterMap (·.dst)=ds:=(Yx O).trans ai;have hs:s<l.length:=(List.getElem?_eq_some_iff.1 S).1;refine qcn hi ht aj I s ds (sp.map Sp.gs) D ab an Y (fun i o S A x W X r=>qeZ D O hg (zy aa S) ab X S r) al hs hm hw ak (Zv ah) ?_ ?_
 ·refine ZC l 0 l (fun i o' J h=>?_) Z;rw[Nat.zero_add]at h⊢;by_cases G:i=s
  ·subst G;rw[S]at J;obtain rfl:=Option.some.inj J;exact .inr ⟨rfl,U⟩
  ·refine .inl ⟨?_,fun A x W f X hR hf am V r K hK=>h.resolve_left G A x W f X hR hf am V r (depG D O (zy aa J) X r) K hK⟩;obtain⟨x,V,ac⟩:=qaB O J;have ad:=qdN af V (by rw[Nat.zero_add];exact G);unfold qcB;rw[List.getElem?_map,V]
   cases x with
   | v d u=>simp[Sp.gs,G,←ac,Sp.dst]
   | p d q=>simp[Sp.gs,G,←ac,Sp.dst]
   | s q=>cases ad
   | f d ds q=>cases ad
 ·intro x W hR ae;obtain⟨h1,h2⟩:=endG (a0:=a0) O ae;rw[D]at h2;rw[h2];exact ag x W hR h1
end Go.Proofs.YthjoojnlnlmljaaGreat
