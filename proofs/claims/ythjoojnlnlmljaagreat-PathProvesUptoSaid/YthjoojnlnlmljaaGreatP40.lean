/- A region that draws its order, one operation of which changes memory: what waits for it comes behind it. No condition. -/
import Derived.Test.YthjoojnlnlmljaaGreatP16
set_option linter.all false
set_option maxRecDepth 100000
set_option maxHeartbeats 8000000
namespace Go.Proofs.YthjoojnlnlmljaaGreat
open Go Go.RowKit
def jS (l:List Oper)(s:Nat):Nat→Nat→Bool
 | 0,_=>false
 | n+1,i=>match l[i]? with
  | some o=>o.after.any fun e=>Region.binds .any e&&(e.on==s||jS l s n e.on)
  | none=>false
theorem qbR {l:List Oper}{s:Nat}{D:Nat→Bool}(I:qa3 l D): ∀(n:Nat) {i:Nat},jS l s n i=true→D i=true→D s=true
 | 0,i,h,_=>by cases h
 | n+1,i,h,hD=>by
  unfold jS at h
  cases ho:l[i]? with
  | none=>rw[ho]at h;cases h
  | some o=>
   rw[ho]at h;obtain⟨e,J,r⟩:=Array.any_eq_true'.1 h;rw[Bool.and_eq_true,Bool.or_eq_true,beq_iff_eq]at r;have q:=I i o ho hD e J r.1;rcases r.2 with G|G
   ·rw[←G];exact q
   ·exact qbR I n G q
theorem qhZ {l:List Oper}{s i:Nat}{o:Oper}{D:Nat→Bool}(J:qa3 l D)(O:l[i]? =some o)(G: ∀e∈o.after,Region.binds .any e=true→D e.on=true){n:Nat}(h:jS l s n i=true):D s=true:=by
 cases n with
 | zero=>cases h
 | succ n=>
  unfold jS at h;rw[O]at h;obtain⟨e,U,r⟩:=Array.any_eq_true'.1 h;rw[Bool.and_eq_true,Bool.or_eq_true,beq_iff_eq]at r;have q:=G e U r.1;rcases r.2 with I|I
  ·rw[←I];exact q
  ·exact qbR J n I q
def qh6 (l:List Oper)(W W':World)(s:Nat):Nat→List GS→Prop
 | _,[]=>True
 | n,g::gs=>(n=s∨jS l s l.length n=true∨g.stay W W')∧qh6 l W W' s (n+1) gs
theorem qdA {l:List Oper}{W W':World}{s:Nat}: ∀{gs:List GS} {n:Nat},qh6 l W W' s n gs→ ∀{j:Nat} {g:GS},gs[j]? =some g→n+j≠s→jS l s l.length (n+j)=false→g.stay W W'
 | [],_,_,j,g,h,_,_=>by simp at h
 | _::_,n,hs,0,g,h,hne,ha=>by
  simp at h;subst h
  rcases hs.1 with o|o|o
  ·exact absurd o (by simpa using hne)
  ·rw[Nat.add_zero,o]at ha;cases ha
  ·exact o
 | _::gs,n,hs,j+1,g,h,hne,ha=>qdA (gs:=gs) hs.2 (by simpa using h) (by omega) (by rw[show n+1+j=n+(j+1) by omega];exact ha)
def qi3 (P:Program)(l:List Oper)(ds:List Tmp)(a0:Act)(Rb:Bool→World→Prop)(s:Nat)(gs:List GS)(Q:Exit→Act→World→Prop)(i:Nat)(o:Oper):Prop:=
 ∀(A:Act) (x:Tmp→Value) (W:World) (f:Bool),Zm a0 x ds A→Rb f W→(jS l i l.length s=true→f=false)→(jS l s l.length i=true→f=true)→(∀j oj d,l[j]? =some oj→oj.dst=some d→jS l i l.length j=true→x d=a0.tmps.getD d undef)→(∀e∈o.after,Region.binds .any e=true→Q9 l gs x W e.on)→
  ∀K:Act→World→Prop,(∀v W',Below W.heap.size W W'→qca gs i v W'→K (A.put o.dst v) W')→Oper.wp P o A W K Q
def qh3 (P:Program)(l:List Oper)(ds:List Tmp)(a0:Act)(Rb:Bool→World→Prop)(s:Nat)(gs:List GS)(Q:Exit→Act→World→Prop)(o:Oper):Prop:=
 ∀(A:Act) (x:Tmp→Value) (W:World),Zm a0 x ds A→Rb false W→(∀j oj d,l[j]? =some oj→oj.dst=some d→jS l s l.length j=true→x d=a0.tmps.getD d undef)→(∀e∈o.after,Region.binds .any e=true→Q9 l gs x W e.on)→
  ∀K:Act→World→Prop,(∀v W',(o.dst=none→v=undef)→Rb true W'→qh6 l W W' s 0 gs→atG gs s x v W'→K (A.put o.dst v) W')→Oper.wp P o A W K Q
theorem qbY {P:Program}{id:Nat}{w:World}{Q:Exit→Act→World→Prop}{a0:Act}{L l tail:List Oper}{n:Nat}(I:L.take n=l)(ht:L.drop n=tail)(ay:ZU .any l tail=true)(Rb:Bool→World→Prop)(s:Nat)(ds:List Tmp)(gs:List GS)(av:l.filterMap (·.dst)=ds)(az:(ds.all fun d=>decide (d<a0.tmps.size))=true)(aw:ds.Nodup)(G:Yq l=true)
  (al: ∀i o,l[i]? =some o→ ∀(A:Act) (x:Tmp→Value) (W:World),Zm a0 x ds A→(∀e∈o.after,Region.binds .any e=true→Q9 l gs x W e.on)→Region.wanted o (yielded l.toArray A.tmps)=true∨(Region.wanted o (yielded l.toArray A.tmps)=false∧qcb gs s i o=true∧ ∀W,qca gs i undef W)) (ao:J2 l gs=true) (hs:s<l.length) (hm:P.follows .mixedOrders=true) (hw:Rb false w.drew) (aB: ∀f W W',Rb f W→Below W.heap.size W W'→Rb f W') (aE:qeA gs)
  (am:yu (fun i o=>(qcb gs s i o=true∧qi3 P l ds a0 Rb s gs (qW P l tail Q) i o)∨(i=s∧qh3 P l ds a0 Rb s gs (qW P l tail Q) o)) 0 l)
  (au: ∀(x:Tmp→Value) (W:World),Rb true W→yu (fun i _=>Q9 l gs x W i) 0 l→qW P l tail Q .normal (lay a0 x ds) W):
  (Code.region id L.toArray true).wp P Q a0 w:=by
 have hL:L=l++tail:=by rw[←I,←ht];exact(List.take_append_drop _ _).symm
 clear I ht;subst hL;subst av;have aq:=hs;refine wp_region_any hm ?_;have eL:(l++tail).toArray.size=l.length+tail.length:=by simp
 rw[eL];refine zt tail l ay ?_;have H:=qcg (P:=P) (ops:=l) (a0:=a0) (Q:=qW P l tail Q) (R:=fun D x W=>(Rb (D s) W∧ ∀i,D i=true→Q9 l gs x W i)∧ ∀j O d,l[j]? =some O→O.dst=some d→D j=false→x d=a0.tmps.getD d undef) aw G (fun i o I D x W ad af ae hC K aF=>by
   have hR:=ad.1;have an: ∀j O d,l[j]? =some O→O.dst=some d→jS l i l.length j=true→x d=a0.tmps.getD d undef:=fun j O d hj U ha=>ad.2 j O d hj U (by
    cases h:D j with
    | false=>rfl
    | true=>have:=qbR hC l.length ha h;rw[af]at this;cases this)
   have hK: ∀v W',(Rb (setD D i s) W'∧ ∀j,setD D i j=true→Q9 l gs (yS x o.dst v) W' j)→K ((lay a0 x (l.filterMap (·.dst))).put o.dst v) W':=fun v W' h=>aF v W' ⟨h,fun j O d hj U V=>by
    have h1:D j=false∧j≠i:=by simpa [setD] using V
    rw[←ad.2 j O d hj U h1.1];unfold yS
    cases hdo:o.dst with
    | none=>rfl
    | some d'=>
     have:d≠d':=by
      rintro rfl
      exact h1.2 ((QE G I).2 j O d hj hdo U)
     simp[upd,this]⟩
   have hL:Zm a0 x (l.filterMap (·.dst)) (lay a0 x (l.filterMap (·.dst))):=JJ (fun d U=>of_decide_eq_true (List.all_eq_true.1 az d U));have ab: ∀(j:Nat) (v:Value) (W':World),j≠i→D j=true→(∀g,gs[j]? =some g→g.stay W W')→Q9 l gs (yS x o.dst v) W' j:=fun j v W' J V aa=>by
    have Z:=hR.2 j V;unfold Q9 at Z⊢
    cases hgj:gs[j]? with
    | none=>trivial
    | some g=>
     cases ac:l[j]? with
     | none=>cases g<;>trivial
     | some O=>
      rw[hgj,ac]at Z
      cases g with
      | own q=>
       show q (qJ (yS x o.dst v) O) W'
       rw[qbe G I ac J];exact aa _ hgj _ Z
      | far dl q=>
       show q (dl.map (yS x o.dst v)) W'
       have e:dl.map (yS x o.dst v)=dl.map x:=by
        refine List.map_congr_left fun d U=>?_
        unfold yS
        cases hdo:o.dst with
        | none=>rfl
        | some d'=>
         have:d≠d':=by
          rintro rfl
          obtain⟨e,he,X,oe,ah,ak⟩:=zL ao ac hgj U;have h1:=(QE G I).2 e.on oe d ah hdo ak;have h2:=hC j O ac V e he X;rw[h1,af]at h2
          cases h2
         simp[upd,this]
       rw[e];exact aa _ hgj _ Z
   have ag:qcb gs s i o=true→ ∀v W',Below W.heap.size W W'→qca gs i v W'→K ((lay a0 x (l.filterMap (·.dst))).put o.dst v) W':=fun r v W' ap Y=>by
    unfold qcb at r;simp only[Bool.and_eq_true,bne_iff_ne]at r;refine hK v W' ⟨?_,fun j hj=>?_⟩
    ·have e:setD D i s=D s:=by
      have:(s==i)=false:=by rw[beq_eq_false_iff_ne];exact Ne.symm r.1.2
      simp[setD,this]
     rw[e];exact aB _ _ _ hR.1 ap
    ·by_cases J:j=i
     ·subst J;unfold Q9;unfold qca at Y
      cases hgj:gs[j]? with
      | none=>trivial
      | some g=>
       rw[hgj]at Y r;rw[I]
       cases g with
       | own q=>
        obtain⟨d,U⟩:=Option.isSome_iff_exists.1 r.2;have:qJ (yS x o.dst v) o=v:=by unfold qJ yS;rw[U];simp[upd]
        show q (qJ (yS x o.dst v) o) W'
        rw[this];exact Y
       | far dl q=>simp at r
     ·have V:D j=true:=by
       have X:(j==i)=false:=by rw[beq_eq_false_iff_ne];exact J
       simpa [setD,X] using hj
      exact ab j v W' J V fun g aj=>qbb aE aj W W' ap
   rcases al i o I _ x W hL (fun e he X=>hR.2 _ (ae e he X))with hw|⟨hw,r,ar⟩
   ·rw[if_pos hw];rcases Yp am i o I with⟨r,hG⟩|⟨rfl,hS⟩
    ·refine hG _ x W (D s) hL hR.1 (fun aA=>?_) (fun aC=>qhZ hC I ae aC) an (fun e he X=>hR.2 _ (ae e he X)) K (ag r)
     cases hDs:D s with
     | false=>rfl
     | true=>have:=qbR hC l.length aA hDs;rw[af]at this;cases this
    ·refine hS _ x W hL (af▸hR.1) an (fun e he X=>hR.2 _ (ae e he X)) K (fun v W' hv aD aa Y=>?_);refine hK v W' ⟨?_,fun j hj=>?_⟩
     ·have:setD D i i=true:=by simp[setD]
      rw[this];exact aD
     ·by_cases J:j=i
      ·subst J;unfold Q9;unfold atG at Y
       cases hgj:gs[j]? with
       | none=>trivial
       | some g=>
        rw[hgj]at Y;rw[I]
        cases g with
        | own q=>
         show q (qJ (yS x o.dst v) o) W'
         have:qJ (yS x o.dst v) o=v:=by
          unfold qJ yS
          cases U:o.dst with
          | none=>exact(hv U).symm
          | some d=>simp[upd]
         rw[this];exact Y
        | far dl q=>
         show q (dl.map (yS x o.dst v)) W'
         have e:dl.map (yS x o.dst v)=dl.map x:=by
          refine List.map_congr_left fun d U=>?_
          unfold yS
          cases hdo:o.dst with
          | none=>rfl
          | some d'=>
           have:d≠d':=by
            rintro rfl
            obtain⟨e,he,X,oe,ah,ak⟩:=zL ao I hgj U;have h1:=(QE G I).2 e.on oe d ah hdo ak;have h2:=(QE G I).1 e he X;omega
           simp[upd,this]
         rw[e];exact Y
      ·have V:D j=true:=by
        have X:(j==i)=false:=by rw[beq_eq_false_iff_ne];exact J
        simpa [setD,X] using hj
       exact ab j v W' J V fun g aj=>qdA aa aj (by simpa using J) (by
        rw[Nat.zero_add]
        cases ha:jS l i l.length j with
        | false=>rfl
        | true=>have:=qbR hC l.length ha V;rw[af]at this;cases this)
   ·rw[if_neg (by rw[hw];decide)];exact ag r undef W Br (ar W))
  (fun D x W ad hD=>au x W (hD s▸ad.1.1) (by
   have: ∀(m:List Oper) (n:Nat),yu (fun i _=>Q9 l gs x W i) n m:=by
    intro m;induction m with
    | nil=>intro n;trivial
    | cons o m ih=>intro n;exact⟨ad.1.2 n (hD n),ih (n+1)⟩
   exact this l 0))
  l.length (Array.replicate l.length false) (fun d=>a0.tmps.getD d undef) w.drew (by simp) (by
   simp only[Array.toList_replicate,ZT,List.countP_replicate];simp) ⟨⟨by
    have:(Array.replicate l.length false).getD s true=false:=by simp[Lh,aq]
    show Rb ((Array.replicate l.length false).getD s true) w.drew
    rw[this];exact hw,fun i I=>by
    have aG: ¬i<l.length:=fun ai=>by simp[Lh,ai]at I
    unfold Q9;rw[List.getElem?_eq_none (l:=l) (by omega)]
    cases gs[i]? with
    | none=>trivial
    | some g=>cases g<;>trivial⟩,fun _ _ _ _ _ _=>rfl⟩ (fun j O ax ac=>by
    have ai:j<l.length:=(List.getElem?_eq_some_iff.1 ax).1;simp[Lh,ai]at ac)
 rw[jG]at H;exact H
def qbH (sp:List Sp)(o:Oper):Option Bool:=match o.guard with
 | none=>some true
 | some (j,want)=>match sp[j]? with
  | some (.v _ (.bool b))=>if(o.after.any fun e=>e.on==j&&Region.binds .any e)=true then some (b==want) else none
  | _=>none
def Z0:Option Sp→Bool
 | some (.v _ (.tuple a))=>a.size==0
 | _=>false
def qfU (sp:List Sp)(l:List Oper)(s:Nat):Bool:=(List.range l.length).all fun i=>match l[i]? with
 | some o=>(match qbH sp o with|some true=>true|some false=>Z0 sp[i]? &&i != s&&o.dst.isSome|none=>false)
 | none=>true
theorem qee {sp:List Sp}{l:List Oper}{ds:List Tmp}{s i:Nat}{o:Oper}{a0 A:Act}{x:Tmp→Value}{W:World}(ae:l.filterMap (·.dst)=ds)(hl:l.map (·.dst)=sp.map Sp.dst)(hg:qfU sp l s=true)(af: ∀e∈o.after,e.on<l.length)(ag:(ds.all fun d=>decide (d<a0.tmps.size))=true)(hA:Zm a0 x ds A)(hi:l[i]? =some o)
  (ab: ∀e∈o.after,Region.binds .any e=true→Q9 l (sp.map Sp.gs) x W e.on):Region.wanted o (yielded l.toArray A.tmps)=true∨(Region.wanted o (yielded l.toArray A.tmps)=false∧qcb (sp.map Sp.gs) s i o=true∧ ∀W,qca (sp.map Sp.gs) i undef W):=by
 have D:(match qbH sp o with|some true=>true|some false=>Z0 sp[i]? &&i != s&&o.dst.isSome|none=>false)=true:=by
  have D:=List.all_eq_true.1 hg i (List.mem_range.2 (List.getElem?_eq_some_iff.1 hi).1);rw[hi]at D;exact D
 cases hgd:o.guard with
 | none=>exact .inl (by simp[Region.wanted,hgd])
 | some jw=>
  obtain⟨j,G⟩:=jw;have r:qbH sp o=match sp[j]? with
   | some (.v _ (.bool b))=>if(o.after.any fun e=>e.on==j&&Region.binds .any e)=true then some (b==G) else none
   | _=>none:=by unfold qbH;rw[hgd]
  cases hsj:sp[j]? with
  | none=>rw[r,hsj]at D;cases D
  | some sj=>
   rw[hsj]at r;match sj,hsj,r with
   | .p _ _,_,r=>rw[r]at D;cases D
   | .s _,_,r=>rw[r]at D;cases D
   | .f _ _ _,_,r=>rw[r]at D;cases D
   | .v d u,hsj,r=>
    cases u with
    | bool b=>
     have I:qbH sp o=if(o.after.any fun e=>e.on==j&&Region.binds .any e)=true then some (b==G) else none:=r
     by_cases Y:(o.after.any fun e=>e.on==j&&Region.binds .any e)=true
     ·rw[if_pos Y]at I;obtain⟨e,he,X⟩:=Array.any_eq_true'.1 Y;rw[Bool.and_eq_true,beq_iff_eq]at X;have O:=ab e he X.2;have aa:=af e he;rw[X.1]at O aa;obtain⟨V,U⟩: ∃V,l[j]? =some V:=⟨_,List.getElem?_eq_getElem aa⟩;obtain⟨s2,Z,ac⟩:=qak hl U;rw[hsj]at Z;obtain rfl:=Option.some.inj Z;rw[qai hsj U]at O;have hd:V.dst=some d:=ac.symm;have hv:qJ x V=x d:=by unfold qJ;rw[hd]
      have hx:x d= .bool b:=by rw[←hv];exact O
      have hm:d∈ds:=by rw[←ae];exact JH U hd
      have J:A.tmps.getD d undef= .bool b:=(hA.1 d hm).trans hx;have ad:A.tmps[d]? =some (.bool b):=by
       rw[Lh]at J
       cases h:A.tmps[d]? with
       | none=>rw[h]at J;exact absurd J (by intro e;cases e)
       | some v=>rw[h]at J;exact congrArg some J
      have hy:yielded l.toArray A.tmps j=some b:=by
       unfold yielded;have:l.toArray[j]? =some V:=by simpa using U
       rw[this];show(match(V.dst).bind (A.tmps[·]?)with|some (.bool b)=>some b|_=>none)=some b
       rw[hd];show(match A.tmps[d]? with|some (.bool b)=>some b|_=>none)=some b
       rw[ad]
      have hw:Region.wanted o (yielded l.toArray A.tmps)=(b==G):=by
       unfold Region.wanted;rw[hgd];show(yielded l.toArray A.tmps j==some G)=_
       rw[hy];rfl
      rw[I]at D
      cases hbw:(b==G)with
      | true=>exact .inl (by rw[hw,hbw])
      | false=>
       rw[hbw]at D;have q:(Z0 sp[i]? &&i != s&&o.dst.isSome)=true:=D;rw[Bool.and_eq_true,Bool.and_eq_true]at q;refine .inr ⟨by rw[hw,hbw],?_,fun W=>?_⟩
       ·unfold qcb;rw[List.getElem?_map]
        cases hsi:sp[i]? with
        | none=>rw[hsi]at q;exact absurd q.1.1 (by decide)
        | some si=>
         rw[hsi]at q;match si,q with
         | .v d u,q=>simp only[Option.map_some,Sp.gs,Bool.true_and];rw[q.1.2,q.2];rfl
         | .p _ _,q=>exact absurd q.1.1 (by simp[Z0])
         | .s _,q=>exact absurd q.1.1 (by simp[Z0])
         | .f _ _ _,q=>exact absurd q.1.1 (by simp[Z0])
       ·unfold qca;rw[List.getElem?_map]
        cases hsi:sp[i]? with
        | none=>trivial
        | some si=>
         rw[hsi]at q;match si,q with
         | .v d (.tuple a),q=>
          have:a= #[]:=Array.eq_empty_of_size_eq_zero (by simpa [Z0] using q.1.1)
          subst this;rfl
         | .v d (.bool _),q=>exact absurd q.1.1 (by simp[Z0])
         | .p _ _,q=>exact absurd q.1.1 (by simp[Z0])
         | .s _,q=>exact absurd q.1.1 (by simp[Z0])
         | .f _ _ _,q=>exact absurd q.1.1 (by simp[Z0])
     ·rw[if_neg Y]at I;rw[I]at D;cases D
    | _=>rw[r]at D;cases D
def qiF (P:Program)(l:List Oper)(ds:List Tmp)(a0:Act)(Rb:Bool→World→Prop)(s:Nat)(sp:List Sp)(i:Nat)(Q:Exit→Act→World→Prop)(o:Oper):Prop:=
 ∀(A:Act) (x:Tmp→Value) (W:World) (f:Bool),Zm a0 x ds A→Rb f W→(jS l i l.length s=true→f=false)→(jS l s l.length i=true→f=true)→(∀j oj d,l[j]? =some oj→oj.dst=some d→jS l i l.length j=true→x d=a0.tmps.getD d undef)→(∀e∈o.after,Region.binds .any e=true→Q9 l (sp.map Sp.gs) x W e.on)→QW sp A W o.after.toList→
  ∀K:Act→World→Prop,(∀v W',Below W.heap.size W W'→qca (sp.map Sp.gs) i v W'→K (A.put o.dst v) W')→Oper.wp P o A W K Q
theorem Jt {P:Program}{id:Nat}{w:World}{Q:Exit→Act→World→Prop}{a0:Act}{L l tail:List Oper}{n:Nat}{ds:List Tmp}{o:Oper}(I:Bool→World→Prop)(s:Nat)(sp:List Sp)(ai:qaJ sp)(hw:I false w.drew)(ak: ∀f W W',I f W→Below W.heap.size W W'→I f W')
  (Y:yu (fun i o=>i=s∨qiF P l ds a0 I s sp i (qW P l tail Q) o) 0 l)
  (O:qh3 P l ds a0 I s (sp.map Sp.gs) (qW P l tail Q) o)
  (ae: ∀(x:Tmp→Value) (W:World),I true W→qaX x W sp→qW P l tail Q .normal (QF a0 x sp) W)
  (hi:L.take n=l:=by dsimp only[List.take]) (ht:L.drop n=tail:=by dsimp only[List.drop]) (an:ZU .any l tail=true:=by kernel_rfl) (aj:sp.filterMap Sp.dst=ds:=by dsimp only[List.filterMap,Sp.dst]) (U:l.map (·.dst)=sp.map Sp.dst:=by rfl)
  (ad:(ds.all fun d=>decide (d<a0.tmps.size))=true:=by rfl) (al:ds.Nodup:=by decide) (Z:Yq l=true:=by kernel_rfl) (hg:qfU sp l s=true:=by kernel_rfl) (ah:J2 l (sp.map Sp.gs)=true:=by kernel_rfl)
  (V:l[s]? =some o:=by rfl) (ag:qfe sp 0 s=true:=by rfl) (ab:qan l=true:=by kernel_rfl) (hm:P.follows .mixedOrders=true:=by kernel_rfl):
  (Code.region id L.toArray true).wp P Q a0 w:=by
 have r:l.filterMap (·.dst)=ds:=(Yh U).trans aj;have hs:s<l.length:=(List.getElem?_eq_some_iff.1 V).1;refine qbY hi ht an I s ds (sp.map Sp.gs) r ad al Z (fun i o V A x W X D=>qee r U hg (za ab V) ad X V D) ah hs hm hw ak (Zd ai) ?_ ?_
 ·refine Zj l 0 l (fun i o' J h=>?_) Y;rw[Nat.zero_add]at h⊢;by_cases G:i=s
  ·subst G;rw[V]at J;obtain rfl:=Option.some.inj J;exact .inr ⟨rfl,O⟩
  ·refine .inl ⟨?_,fun A x W f X hR hf am hx D K hK=>h.resolve_left G A x W f X hR hf am hx D (depG r U (za ab J) X D) K hK⟩;obtain⟨x,hx,aa⟩:=qak U J;have ac:=qdc ag hx (by rw[Nat.zero_add];exact G);unfold qcb;rw[List.getElem?_map,hx]
   cases x with
   | v d u=>simp[Sp.gs,G,←aa,Sp.dst]
   | p d q=>simp[Sp.gs,G,←aa,Sp.dst]
   | s q=>cases ac
   | f d ds q=>cases ac
 ·intro x W hR af;obtain⟨h1,h2⟩:=endG (a0:=a0) U af;rw[r]at h2;rw[h2];exact ae x W hR h1
end Go.Proofs.YthjoojnlnlmljaaGreat
