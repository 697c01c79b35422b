/- A region that draws its order, one operation of which changes memory: what waits for it comes behind it. No condition. -/
import Derived.Test.YthjoojnlnlmljaaGreatG16
set_option linter.all false
set_option maxRecDepth 100000
set_option maxHeartbeats 8000000
namespace Go.Proofs.YthjoojnlnlmljaaGreat
open Go Go.RowKit
def jE (l:List Oper)(s:Nat):Nat→Nat→Bool
 | 0,_=>false
 | n+1,i=>match l[i]? with
  | some o=>o.after.any fun e=>Region.binds .any e&&(e.on==s||jE l s n e.on)
  | none=>false
theorem qbH {l:List Oper}{s:Nat}{D:Nat→Bool}(J:qa0 l D): ∀(n:Nat) {i:Nat},jE l s n i=true→D i=true→D s=true
 | 0,i,h,_=>by cases h
 | n+1,i,h,hD=>by
  unfold jE at h
  cases ho:l[i]? with
  | none=>rw[ho]at h;cases h
  | some o=>
   rw[ho]at h;obtain⟨e,O,G⟩:=Array.any_eq_true'.1 h;rw[Bool.and_eq_true,Bool.or_eq_true,beq_iff_eq]at G;have q:=J i o ho hD e O G.1;rcases G.2 with I|I
   ·rw[←I];exact q
   ·exact qbH J n I q
theorem qh1 {l:List Oper}{s i:Nat}{o:Oper}{D:Nat→Bool}(V:qa0 l D)(U:l[i]? =some o)(I: ∀e∈o.after,Region.binds .any e=true→D e.on=true){n:Nat}(h:jE l s n i=true):D s=true:=by
 cases n with
 | zero=>cases h
 | succ n=>
  unfold jE at h;rw[U]at h;obtain⟨e,O,G⟩:=Array.any_eq_true'.1 h;rw[Bool.and_eq_true,Bool.or_eq_true,beq_iff_eq]at G;have q:=I e O G.1;rcases G.2 with J|J
  ·rw[←J];exact q
  ·exact qbH V n J q
def qh6 (l:List Oper)(W W':World)(s:Nat):Nat→List GS→Prop
 | _,[]=>True
 | n,g::gs=>(n=s∨jE l s l.length n=true∨g.stay W W')∧qh6 l W W' s (n+1) gs
theorem qdD {l:List Oper}{W W':World}{s:Nat}: ∀{gs:List GS} {n:Nat},qh6 l W W' s n gs→ ∀{j:Nat} {g:GS},gs[j]? =some g→n+j≠s→jE l s l.length (n+j)=false→g.stay W W'
 | [],_,_,j,g,h,_,_=>by simp at h
 | _::_,n,hs,0,g,h,hne,ha=>by
  simp at h;subst h
  rcases hs.1 with o|o|o
  ·exact absurd o (by simpa using hne)
  ·rw[Nat.add_zero,o]at ha;cases ha
  ·exact o
 | _::gs,n,hs,j+1,g,h,hne,ha=>qdD (gs:=gs) hs.2 (by simpa using h) (by omega) (by rw[show n+1+j=n+(j+1) by omega];exact ha)
def qi2 (P:Program)(l:List Oper)(ds:List Tmp)(a0:Act)(Rb:Bool→World→Prop)(s:Nat)(gs:List GS)(Q:Exit→Act→World→Prop)(i:Nat)(o:Oper):Prop:=
 ∀(A:Act) (x:Tmp→Value) (W:World) (f:Bool),Za a0 x ds A→Rb f W→(jE l i l.length s=true→f=false)→(jE l s l.length i=true→f=true)→(∀j oj d,l[j]? =some oj→oj.dst=some d→jE l i l.length j=true→x d=a0.tmps.getD d undef)→(∀e∈o.after,Region.binds .any e=true→Q1 l gs x W e.on)→
  ∀K:Act→World→Prop,(∀v W',Below W.heap.size W W'→qb3 gs i v W'→K (A.put o.dst v) W')→Oper.wp P o A W K Q
def qh3 (P:Program)(l:List Oper)(ds:List Tmp)(a0:Act)(Rb:Bool→World→Prop)(s:Nat)(gs:List GS)(Q:Exit→Act→World→Prop)(o:Oper):Prop:=
 ∀(A:Act) (x:Tmp→Value) (W:World),Za a0 x ds A→Rb false W→(∀j oj d,l[j]? =some oj→oj.dst=some d→jE l s l.length j=true→x d=a0.tmps.getD d undef)→(∀e∈o.after,Region.binds .any e=true→Q1 l gs x W e.on)→
  ∀K:Act→World→Prop,(∀v W',(o.dst=none→v=undef)→Rb true W'→qh6 l W W' s 0 gs→atG gs s x v W'→K (A.put o.dst v) W')→Oper.wp P o A W K Q
theorem qbQ {P:Program}{id:Nat}{w:World}{Q:Exit→Act→World→Prop}{a0:Act}{L l tail:List Oper}{n:Nat}(J:L.take n=l)(ht:L.drop n=tail)(aA:ZD .any l tail=true)(Rb:Bool→World→Prop)(s:Nat)(ds:List Tmp)(gs:List GS)(aE:l.filterMap (·.dst)=ds)(ax:(ds.all fun d=>decide (d<a0.tmps.size))=true)(az:ds.Nodup)(I:yV l=true)
  (an: ∀i o,l[i]? =some o→ ∀(A:Act) (x:Tmp→Value) (W:World),Za a0 x ds A→(∀e∈o.after,Region.binds .any e=true→Q1 l gs x W e.on)→Region.wanted o (yielded l.toArray A.tmps)=true∨(Region.wanted o (yielded l.toArray A.tmps)=false∧qb4 gs s i o=true∧ ∀W,qb3 gs i undef W)) (aq:JW l gs=true) (hs:s<l.length) (hm:P.follows .mixedOrders=true) (hw:Rb false w.drew) (aF: ∀f W W',Rb f W→Below W.heap.size W W'→Rb f W') (aC:qey gs)
  (am:yj (fun i o=>(qb4 gs s i o=true∧qi2 P l ds a0 Rb s gs (qV P l tail Q) i o)∨(i=s∧qh3 P l ds a0 Rb s gs (qV P l tail Q) o)) 0 l)
  (ar: ∀(x:Tmp→Value) (W:World),Rb true W→yj (fun i _=>Q1 l gs x W i) 0 l→qV P l tail Q .normal (lay a0 x ds) W):
  (Code.region id L.toArray true).wp P Q a0 w:=by
 have hL:L=l++tail:=by rw[←J,←ht];exact(List.take_append_drop _ _).symm
 clear J ht;subst hL;subst aE;have au:=hs;refine wp_region_any hm ?_;have eL:(l++tail).toArray.size=l.length+tail.length:=by simp
 rw[eL];refine za tail l aA ?_;have H:=qb9 (P:=P) (ops:=l) (a0:=a0) (Q:=qV P l tail Q) (R:=fun D x W=>(Rb (D s) W∧ ∀i,D i=true→Q1 l gs x W i)∧ ∀j V d,l[j]? =some V→V.dst=some d→D j=false→x d=a0.tmps.getD d undef) az I (fun i o J D x W ac ag af hC K aG=>by
   have hR:=ac.1;have ap: ∀j V d,l[j]? =some V→V.dst=some d→jE l i l.length j=true→x d=a0.tmps.getD d undef:=fun j V d hj U ha=>ac.2 j V d hj U (by
    cases h:D j with
    | false=>rfl
    | true=>have:=qbH hC l.length ha h;rw[ag]at this;cases this)
   have hK: ∀v W',(Rb (setD D i s) W'∧ ∀j,setD D i j=true→Q1 l gs (yJ x o.dst v) W' j)→K ((lay a0 x (l.filterMap (·.dst))).put o.dst v) W':=fun v W' h=>aG v W' ⟨h,fun j V d hj U X=>by
    have h1:D j=false∧j≠i:=by simpa [setD] using X
    rw[←ac.2 j V d hj U h1.1];unfold yJ
    cases hdo:o.dst with
    | none=>rfl
    | some d'=>
     have:d≠d':=by
      rintro rfl
      exact h1.2 ((QB I J).2 j V d hj hdo U)
     simp[upd,this]⟩
   have hL:Za a0 x (l.filterMap (·.dst)) (lay a0 x (l.filterMap (·.dst))):=JB (fun d U=>of_decide_eq_true (List.all_eq_true.1 ax d U));have ae: ∀(j:Nat) (v:Value) (W':World),j≠i→D j=true→(∀g,gs[j]? =some g→g.stay W W')→Q1 l gs (yJ x o.dst v) W' j:=fun j v W' O X aa=>by
    have ab:=hR.2 j X;unfold Q1 at ab⊢
    cases hgj:gs[j]? with
    | none=>trivial
    | some g=>
     cases ad:l[j]? with
     | none=>cases g<;>trivial
     | some V=>
      rw[hgj,ad]at ab
      cases g with
      | own q=>
       show q (qJ (yJ x o.dst v) V) W'
       rw[qa9 I J ad O];exact aa _ hgj _ ab
      | far dl q=>
       show q (dl.map (yJ x o.dst v)) W'
       have e:dl.map (yJ x o.dst v)=dl.map x:=by
        refine List.map_congr_left fun d U=>?_
        unfold yJ
        cases hdo:o.dst with
        | none=>rfl
        | some d'=>
         have:d≠d':=by
          rintro rfl
          obtain⟨e,he,Y,oe,ak,al⟩:=zr aq ad hgj U;have h1:=(QB I J).2 e.on oe d ak hdo al;have h2:=hC j V ad X e he Y;rw[h1,ag]at h2
          cases h2
         simp[upd,this]
       rw[e];exact aa _ hgj _ ab
   have ah:qb4 gs s i o=true→ ∀v W',Below W.heap.size W W'→qb3 gs i v W'→K ((lay a0 x (l.filterMap (·.dst))).put o.dst v) W':=fun G v W' ao Z=>by
    unfold qb4 at G;simp only[Bool.and_eq_true,bne_iff_ne]at G;refine hK v W' ⟨?_,fun j hj=>?_⟩
    ·have e:setD D i s=D s:=by
      have:(s==i)=false:=by rw[beq_eq_false_iff_ne];exact Ne.symm G.1.2
      simp[setD,this]
     rw[e];exact aF _ _ _ hR.1 ao
    ·by_cases O:j=i
     ·subst O;unfold Q1;unfold qb3 at Z
      cases hgj:gs[j]? with
      | none=>trivial
      | some g=>
       rw[hgj]at Z G;rw[J]
       cases g with
       | own q=>
        obtain⟨d,U⟩:=Option.isSome_iff_exists.1 G.2;have:qJ (yJ x o.dst v) o=v:=by unfold qJ yJ;rw[U];simp[upd]
        show q (qJ (yJ x o.dst v) o) W'
        rw[this];exact Z
       | far dl q=>simp at G
     ·have X:D j=true:=by
       have Y:(j==i)=false:=by rw[beq_eq_false_iff_ne];exact O
       simpa [setD,Y] using hj
      exact ae j v W' O X fun g ai=>qa7 aC ai W W' ao
   rcases an i o J _ x W hL (fun e he Y=>hR.2 _ (af e he Y))with hw|⟨hw,G,av⟩
   ·rw[if_pos hw];rcases Yi am i o J with⟨G,hG⟩|⟨rfl,hS⟩
    ·refine hG _ x W (D s) hL hR.1 (fun ay=>?_) (fun aw=>qh1 hC J af aw) ap (fun e he Y=>hR.2 _ (af e he Y)) K (ah G)
     cases hDs:D s with
     | false=>rfl
     | true=>have:=qbH hC l.length ay hDs;rw[ag]at this;cases this
    ·refine hS _ x W hL (ag▸hR.1) ap (fun e he Y=>hR.2 _ (af e he Y)) K (fun v W' hv aB aa Z=>?_);refine hK v W' ⟨?_,fun j hj=>?_⟩
     ·have:setD D i i=true:=by simp[setD]
      rw[this];exact aB
     ·by_cases O:j=i
      ·subst O;unfold Q1;unfold atG at Z
       cases hgj:gs[j]? with
       | none=>trivial
       | some g=>
        rw[hgj]at Z;rw[J]
        cases g with
        | own q=>
         show q (qJ (yJ x o.dst v) o) W'
         have:qJ (yJ x o.dst v) o=v:=by
          unfold qJ yJ
          cases U:o.dst with
          | none=>exact(hv U).symm
          | some d=>simp[upd]
         rw[this];exact Z
        | far dl q=>
         show q (dl.map (yJ x o.dst v)) W'
         have e:dl.map (yJ x o.dst v)=dl.map x:=by
          refine List.map_congr_left fun d U=>?_
          unfold yJ
          cases hdo:o.dst with
          | none=>rfl
          | some d'=>
           have:d≠d':=by
            rintro rfl
            obtain⟨e,he,Y,oe,ak,al⟩:=zr aq J hgj U;have h1:=(QB I J).2 e.on oe d ak hdo al;have h2:=(QB I J).1 e he Y;omega
           simp[upd,this]
         rw[e];exact Z
      ·have X:D j=true:=by
        have Y:(j==i)=false:=by rw[beq_eq_false_iff_ne];exact O
        simpa [setD,Y] using hj
       exact ae j v W' O X fun g ai=>qdD aa ai (by simpa using O) (by
        rw[Nat.zero_add]
        cases ha:jE l i l.length j with
        | false=>rfl
        | true=>have:=qbH hC l.length ha X;rw[ag]at this;cases this)
   ·rw[if_neg (by rw[hw];decide)];exact ah G undef W Br (av W))
  (fun D x W ac hD=>ar x W (hD s▸ac.1.1) (by
   have: ∀(m:List Oper) (n:Nat),yj (fun i _=>Q1 l gs x W i) n m:=by
    intro m;induction m with
    | nil=>intro n;trivial
    | cons o m ih=>intro n;exact⟨ac.1.2 n (hD n),ih (n+1)⟩
   exact this l 0))
  l.length (Array.replicate l.length false) (fun d=>a0.tmps.getD d undef) w.drew (by simp) (by
   simp only[Array.toList_replicate,Zz,List.countP_replicate];simp) ⟨⟨by
    have:(Array.replicate l.length false).getD s true=false:=by simp[Lh,au]
    show Rb ((Array.replicate l.length false).getD s true) w.drew
    rw[this];exact hw,fun i J=>by
    have aH: ¬i<l.length:=fun aj=>by simp[Lh,aj]at J
    unfold Q1;rw[List.getElem?_eq_none (l:=l) (by omega)]
    cases gs[i]? with
    | none=>trivial
    | some g=>cases g<;>trivial⟩,fun _ _ _ _ _ _=>rfl⟩ (fun j V aD ad=>by
    have aj:j<l.length:=(List.getElem?_eq_some_iff.1 aD).1;simp[Lh,aj]at ad)
 rw[Zm]at H;exact H
def qbv (sp:List Sp)(o:Oper):Option Bool:=match o.guard with
 | none=>some true
 | some (j,want)=>match sp[j]? with
  | some (.v _ (.bool b))=>if(o.after.any fun e=>e.on==j&&Region.binds .any e)=true then some (b==want) else none
  | _=>none
def ZJ:Option Sp→Bool
 | some (.v _ (.tuple a))=>a.size==0
 | _=>false
def qf0 (sp:List Sp)(l:List Oper)(s:Nat):Bool:=(List.range l.length).all fun i=>match l[i]? with
 | some o=>(match qbv sp o with|some true=>true|some false=>ZJ sp[i]? &&i != s&&o.dst.isSome|none=>false)
 | none=>true
theorem qed {sp:List Sp}{l:List Oper}{ds:List Tmp}{s i:Nat}{o:Oper}{a0 A:Act}{x:Tmp→Value}{W:World}(af:l.filterMap (·.dst)=ds)(hl:l.map (·.dst)=sp.map Sp.dst)(hg:qf0 sp l s=true)(ag: ∀e∈o.after,e.on<l.length)(ah:(ds.all fun d=>decide (d<a0.tmps.size))=true)(hA:Za a0 x ds A)(hi:l[i]? =some o)
  (ac: ∀e∈o.after,Region.binds .any e=true→Q1 l (sp.map Sp.gs) x W e.on):Region.wanted o (yielded l.toArray A.tmps)=true∨(Region.wanted o (yielded l.toArray A.tmps)=false∧qb4 (sp.map Sp.gs) s i o=true∧ ∀W,qb3 (sp.map Sp.gs) i undef W):=by
 have G:(match qbv sp o with|some true=>true|some false=>ZJ sp[i]? &&i != s&&o.dst.isSome|none=>false)=true:=by
  have G:=List.all_eq_true.1 hg i (List.mem_range.2 (List.getElem?_eq_some_iff.1 hi).1);rw[hi]at G;exact G
 cases hgd:o.guard with
 | none=>exact .inl (by simp[Region.wanted,hgd])
 | some jw=>
  obtain⟨j,I⟩:=jw;have D:qbv sp o=match sp[j]? with
   | some (.v _ (.bool b))=>if(o.after.any fun e=>e.on==j&&Region.binds .any e)=true then some (b==I) else none
   | _=>none:=by unfold qbv;rw[hgd]
  cases hsj:sp[j]? with
  | none=>rw[D,hsj]at G;cases G
  | some sj=>
   rw[hsj]at D;match sj,hsj,D with
   | .p _ _,_,D=>rw[D]at G;cases G
   | .s _,_,D=>rw[D]at G;cases G
   | .f _ _ _,_,D=>rw[D]at G;cases G
   | .v d u,hsj,D=>
    cases u with
    | bool b=>
     have J:qbv sp o=if(o.after.any fun e=>e.on==j&&Region.binds .any e)=true then some (b==I) else none:=D
     by_cases Y:(o.after.any fun e=>e.on==j&&Region.binds .any e)=true
     ·rw[if_pos Y]at J;obtain⟨e,he,Z⟩:=Array.any_eq_true'.1 Y;rw[Bool.and_eq_true,beq_iff_eq]at Z;have U:=ac e he Z.2;have aa:=ag e he;rw[Z.1]at U aa;obtain⟨X,V⟩: ∃X,l[j]? =some X:=⟨_,List.getElem?_eq_getElem aa⟩;obtain⟨s2,ab,ad⟩:=qaa hl V;rw[hsj]at ab;obtain rfl:=Option.some.inj ab;rw[J8 hsj V]at U;have hd:X.dst=some d:=ad.symm;have hv:qJ x X=x d:=by unfold qJ;rw[hd]
      have hx:x d= .bool b:=by rw[←hv];exact U
      have hm:d∈ds:=by rw[←af];exact Jw V hd
      have O:A.tmps.getD d undef= .bool b:=(hA.1 d hm).trans hx;have ae:A.tmps[d]? =some (.bool b):=by
       rw[Lh]at O
       cases h:A.tmps[d]? with
       | none=>rw[h]at O;exact absurd O (by intro e;cases e)
       | some v=>rw[h]at O;exact congrArg some O
      have hy:yielded l.toArray A.tmps j=some b:=by
       unfold yielded;have:l.toArray[j]? =some X:=by simpa using V
       rw[this];show(match(X.dst).bind (A.tmps[·]?)with|some (.bool b)=>some b|_=>none)=some b
       rw[hd];show(match A.tmps[d]? with|some (.bool b)=>some b|_=>none)=some b
       rw[ae]
      have hw:Region.wanted o (yielded l.toArray A.tmps)=(b==I):=by
       unfold Region.wanted;rw[hgd];show(yielded l.toArray A.tmps j==some I)=_
       rw[hy];rfl
      rw[J]at G
      cases hbw:(b==I)with
      | true=>exact .inl (by rw[hw,hbw])
      | false=>
       rw[hbw]at G;have q:(ZJ sp[i]? &&i != s&&o.dst.isSome)=true:=G;rw[Bool.and_eq_true,Bool.and_eq_true]at q;refine .inr ⟨by rw[hw,hbw],?_,fun W=>?_⟩
       ·unfold qb4;rw[List.getElem?_map]
        cases hsi:sp[i]? with
        | none=>rw[hsi]at q;exact absurd q.1.1 (by decide)
        | some si=>
         rw[hsi]at q;match si,q with
         | .v d u,q=>simp only[Option.map_some,Sp.gs,Bool.true_and];rw[q.1.2,q.2];rfl
         | .p _ _,q=>exact absurd q.1.1 (by simp[ZJ])
         | .s _,q=>exact absurd q.1.1 (by simp[ZJ])
         | .f _ _ _,q=>exact absurd q.1.1 (by simp[ZJ])
       ·unfold qb3;rw[List.getElem?_map]
        cases hsi:sp[i]? with
        | none=>trivial
        | some si=>
         rw[hsi]at q;match si,q with
         | .v d (.tuple a),q=>
          have:a= #[]:=Array.eq_empty_of_size_eq_zero (by simpa [ZJ] using q.1.1)
          subst this;rfl
         | .v d (.bool _),q=>exact absurd q.1.1 (by simp[ZJ])
         | .p _ _,q=>exact absurd q.1.1 (by simp[ZJ])
         | .s _,q=>exact absurd q.1.1 (by simp[ZJ])
         | .f _ _ _,q=>exact absurd q.1.1 (by simp[ZJ])
     ·rw[if_neg Y]at J;rw[J]at G;cases G
    | _=>rw[D]at G;cases G
def qiD (P:Program)(l:List Oper)(ds:List Tmp)(a0:Act)(Rb:Bool→World→Prop)(s:Nat)(sp:List Sp)(i:Nat)(Q:Exit→Act→World→Prop)(o:Oper):Prop:=
 ∀(A:Act) (x:Tmp→Value) (W:World) (f:Bool),Za a0 x ds A→Rb f W→(jE l i l.length s=true→f=false)→(jE l s l.length i=true→f=true)→(∀j oj d,l[j]? =some oj→oj.dst=some d→jE l i l.length j=true→x d=a0.tmps.getD d undef)→(∀e∈o.after,Region.binds .any e=true→Q1 l (sp.map Sp.gs) x W e.on)→QN sp A W o.after.toList→
  ∀K:Act→World→Prop,(∀v W',Below W.heap.size W W'→qb3 (sp.map Sp.gs) i v W'→K (A.put o.dst v) W')→Oper.wp P o A W K Q
theorem Jg {P:Program}{id:Nat}{w:World}{Q:Exit→Act→World→Prop}{a0:Act}{L l tail:List Oper}{n:Nat}{ds:List Tmp}{o:Oper}(J:Bool→World→Prop)(s:Nat)(sp:List Sp)(am:qaH sp)(hw:J false w.drew)(ao: ∀f W W',J f W→Below W.heap.size W W'→J f W')
  (ab:yj (fun i o=>i=s∨qiD P l ds a0 J s sp i (qV P l tail Q) o) 0 l)
  (X:qh3 P l ds a0 J s (sp.map Sp.gs) (qV P l tail Q) o)
  (ag: ∀(x:Tmp→Value) (W:World),J true W→qaU x W sp→qV P l tail Q .normal (QA a0 x sp) W)
  (hi:L.take n=l:=by dsimp only[List.take]) (ht:L.drop n=tail:=by dsimp only[List.drop]) (ak:ZD .any l tail=true:=by kernel_rfl) (an:sp.filterMap Sp.dst=ds:=by dsimp only[List.filterMap,Sp.dst]) (V:l.map (·.dst)=sp.map Sp.dst:=by rfl)
  (ad:(ds.all fun d=>decide (d<a0.tmps.size))=true:=by rfl) (aj:ds.Nodup:=by decide) (aa:yV l=true:=by kernel_rfl) (hg:qf0 sp l s=true:=by kernel_rfl) (al:JW l (sp.map Sp.gs)=true:=by kernel_rfl)
  (U:l[s]? =some o:=by rfl) (ah:qfh sp 0 s=true:=by rfl) (ae:qad l=true:=by kernel_rfl) (hm:P.follows .mixedOrders=true:=by kernel_rfl):
  (Code.region id L.toArray true).wp P Q a0 w:=by
 have G:l.filterMap (·.dst)=ds:=(Ya V).trans an;have hs:s<l.length:=(List.getElem?_eq_some_iff.1 U).1;refine qbQ hi ht ak J s ds (sp.map Sp.gs) G ad aj aa (fun i o U A x W Z D=>qed G V hg (YW ae U) ad Z U D) al hs hm hw ao (zW am) ?_ ?_
 ·refine z8 l 0 l (fun i o' O h=>?_) ab;rw[Nat.zero_add]at h⊢;by_cases I:i=s
  ·subst I;rw[U]at O;obtain rfl:=Option.some.inj O;exact .inr ⟨rfl,X⟩
  ·refine .inl ⟨?_,fun A x W f Z hR hf ap Y D K hK=>h.resolve_left I A x W f Z hR hf ap Y D (depG G V (YW ae O) Z D) K hK⟩;obtain⟨x,Y,af⟩:=qaa V O;have ac:=qc6 ah Y (by rw[Nat.zero_add];exact I);unfold qb4;rw[List.getElem?_map,Y]
   cases x with
   | v d u=>simp[Sp.gs,I,←af,Sp.dst]
   | p d q=>simp[Sp.gs,I,←af,Sp.dst]
   | s q=>cases ac
   | f d ds q=>cases ac
 ·intro x W hR ai;obtain⟨h1,h2⟩:=endG (a0:=a0) V ai;rw[G]at h2;rw[h2];exact ag x W hR h1
end Go.Proofs.YthjoojnlnlmljaaGreat
