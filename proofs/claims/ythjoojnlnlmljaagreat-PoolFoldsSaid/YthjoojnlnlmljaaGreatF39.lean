/- A region that draws its order, one operation of which changes memory: what waits for it comes behind it. No condition. -/
import Derived.Test.YthjoojnlnlmljaaGreatF16
set_option linter.all false
set_option maxRecDepth 100000
set_option maxHeartbeats 8000000
namespace Go.Proofs.YthjoojnlnlmljaaGreat
open Go Go.RowKit
def jn (l:List Oper)(s:Nat):Nat→Nat→Bool
 | 0,_=>false
 | n+1,i=>match l[i]? with
  | some o=>o.after.any fun e=>Region.binds .any e&&(e.on==s||jn l s n e.on)
  | none=>false
theorem qbe {l:List Oper}{s:Nat}{D:Nat→Bool}(J:qav l D): ∀(n:Nat) {i:Nat},jn l s n i=true→D i=true→D s=true
 | 0,i,h,_=>by cases h
 | n+1,i,h,hD=>by
  unfold jn at h
  cases ho:l[i]? with
  | none=>rw[ho]at h;cases h
  | some o=>
   rw[ho]at h;obtain⟨e,O,G⟩:=Array.any_eq_true'.1 h;rw[Bool.and_eq_true,Bool.or_eq_true,beq_iff_eq]at G;have q:=J i o ho hD e O G.1;rcases G.2 with I|I
   ·rw[←I];exact q
   ·exact qbe J n I q
theorem qhp {l:List Oper}{s i:Nat}{o:Oper}{D:Nat→Bool}(U:qav l D)(S:l[i]? =some o)(J: ∀e∈o.after,Region.binds .any e=true→D e.on=true){n:Nat}(h:jn l s n i=true):D s=true:=by
 cases n with
 | zero=>cases h
 | succ n=>
  unfold jn at h;rw[S]at h;obtain⟨e,O,G⟩:=Array.any_eq_true'.1 h;rw[Bool.and_eq_true,Bool.or_eq_true,beq_iff_eq]at G;have q:=J e O G.1;rcases G.2 with I|I
  ·rw[←I];exact q
  ·exact qbe U n I q
def qht (l:List Oper)(W W':World)(s:Nat):Nat→List GS→Prop
 | _,[]=>True
 | n,g::gs=>(n=s∨jn l s l.length n=true∨g.stay W W')∧qht l W W' s (n+1) gs
theorem qc8 {l:List Oper}{W W':World}{s:Nat}: ∀{gs:List GS} {n:Nat},qht l W W' s n gs→ ∀{j:Nat} {g:GS},gs[j]? =some g→n+j≠s→jn l s l.length (n+j)=false→g.stay W W'
 | [],_,_,j,g,h,_,_=>by simp at h
 | _::_,n,hs,0,g,h,hne,ha=>by
  simp at h;subst h
  rcases hs.1 with o|o|o
  ·exact absurd o (by simpa using hne)
  ·rw[Nat.add_zero,o]at ha;cases ha
  ·exact o
 | _::gs,n,hs,j+1,g,h,hne,ha=>qc8 (gs:=gs) hs.2 (by simpa using h) (by omega) (by rw[show n+1+j=n+(j+1) by omega];exact ha)
def qip (P:Program)(l:List Oper)(ds:List Tmp)(a0:Act)(Rb:Bool→World→Prop)(s:Nat)(gs:List GS)(Q:Exit→Act→World→Prop)(i:Nat)(o:Oper):Prop:=
 ∀(A:Act) (x:Tmp→Value) (W:World) (f:Bool),zP a0 x ds A→Rb f W→(jn l i l.length s=true→f=false)→(jn l s l.length i=true→f=true)→(∀j oj d,l[j]? =some oj→oj.dst=some d→jn l i l.length j=true→x d=a0.tmps.getD d undef)→(∀e∈o.after,Region.binds .any e=true→QT l gs x W e.on)→
  ∀K:Act→World→Prop,(∀v W',Below W.heap.size W W'→qbC gs i v W'→K (A.put o.dst v) W')→Oper.wp P o A W K Q
def qhq (P:Program)(l:List Oper)(ds:List Tmp)(a0:Act)(Rb:Bool→World→Prop)(s:Nat)(gs:List GS)(Q:Exit→Act→World→Prop)(o:Oper):Prop:=
 ∀(A:Act) (x:Tmp→Value) (W:World),zP a0 x ds A→Rb false W→(∀j oj d,l[j]? =some oj→oj.dst=some d→jn l s l.length j=true→x d=a0.tmps.getD d undef)→(∀e∈o.after,Region.binds .any e=true→QT l gs x W e.on)→
  ∀K:Act→World→Prop,(∀v W',(o.dst=none→v=undef)→Rb true W'→qht l W W' s 0 gs→atG gs s x v W'→K (A.put o.dst v) W')→Oper.wp P o A W K Q
theorem qbm {P:Program}{id:Nat}{w:World}{Q:Exit→Act→World→Prop}{a0:Act}{L l tail:List Oper}{n:Nat}(J:L.take n=l)(ht:L.drop n=tail)(az:Zp .any l tail=true)(Rb:Bool→World→Prop)(s:Nat)(ds:List Tmp)(gs:List GS)(aF:l.filterMap (·.dst)=ds)(aD:(ds.all fun d=>decide (d<a0.tmps.size))=true)(aw:ds.Nodup)(I:yM l=true)
  (am: ∀i o,l[i]? =some o→ ∀(A:Act) (x:Tmp→Value) (W:World),zP a0 x ds A→(∀e∈o.after,Region.binds .any e=true→QT l gs x W e.on)→Region.wanted o (yielded l.toArray A.tmps)=true∨(Region.wanted o (yielded l.toArray A.tmps)=false∧qbD gs s i o=true∧ ∀W,qbC gs i undef W)) (an:Jv l gs=true) (hs:s<l.length) (hm:P.follows .mixedOrders=true) (hw:Rb false w.drew) (aB: ∀f W W',Rb f W→Below W.heap.size W W'→Rb f W') (ax:qdY gs)
  (al:ye (fun i o=>(qbD gs s i o=true∧qip P l ds a0 Rb s gs (qR P l tail Q) i o)∨(i=s∧qhq P l ds a0 Rb s gs (qR P l tail Q) o)) 0 l)
  (aq: ∀(x:Tmp→Value) (W:World),Rb true W→ye (fun i _=>QT l gs x W i) 0 l→qR P l tail Q .normal (lay a0 x ds) W):
  (Code.region id L.toArray true).wp P Q a0 w:=by
 have hL:L=l++tail:=by rw[←J,←ht];exact(List.take_append_drop _ _).symm
 clear J ht;subst hL;subst aF;have au:=hs;refine wp_region_any hm ?_;have eL:(l++tail).toArray.size=l.length+tail.length:=by simp
 rw[eL];refine YY tail l az ?_;have H:=qbH (P:=P) (ops:=l) (a0:=a0) (Q:=qR P l tail Q) (R:=fun D x W=>(Rb (D s) W∧ ∀i,D i=true→QT l gs x W i)∧ ∀j S d,l[j]? =some S→S.dst=some d→D j=false→x d=a0.tmps.getD d undef) aw I (fun i o J D x W ad af ae hC K aC=>by
   have hR:=ad.1;have ao: ∀j S d,l[j]? =some S→S.dst=some d→jn l i l.length j=true→x d=a0.tmps.getD d undef:=fun j S d hj V ha=>ad.2 j S d hj V (by
    cases h:D j with
    | false=>rfl
    | true=>have:=qbe hC l.length ha h;rw[af]at this;cases this)
   have hK: ∀v W',(Rb (setD D i s) W'∧ ∀j,setD D i j=true→QT l gs (yz x o.dst v) W' j)→K ((lay a0 x (l.filterMap (·.dst))).put o.dst v) W':=fun v W' h=>aC v W' ⟨h,fun j S d hj V U=>by
    have h1:D j=false∧j≠i:=by simpa [setD] using U
    rw[←ad.2 j S d hj V h1.1];unfold yz
    cases hdo:o.dst with
    | none=>rfl
    | some d'=>
     have:d≠d':=by
      rintro rfl
      exact h1.2 ((Qu I J).2 j S d hj hdo V)
     simp[upd,this]⟩
   have hL:zP a0 x (l.filterMap (·.dst)) (lay a0 x (l.filterMap (·.dst))):=Ja (fun d V=>of_decide_eq_true (List.all_eq_true.1 aD d V));have ac: ∀(j:Nat) (v:Value) (W':World),j≠i→D j=true→(∀g,gs[j]? =some g→g.stay W W')→QT l gs (yz x o.dst v) W' j:=fun j v W' O U aa=>by
    have Z:=hR.2 j U;unfold QT at Z⊢
    cases hgj:gs[j]? with
    | none=>trivial
    | some g=>
     cases ab:l[j]? with
     | none=>cases g<;>trivial
     | some S=>
      rw[hgj,ab]at Z
      cases g with
      | own q=>
       show q (qF (yz x o.dst v) S) W'
       rw[qaC I J ab O];exact aa _ hgj _ Z
      | far dl q=>
       show q (dl.map (yz x o.dst v)) W'
       have e:dl.map (yz x o.dst v)=dl.map x:=by
        refine List.map_congr_left fun d V=>?_
        unfold yz
        cases hdo:o.dst with
        | none=>rfl
        | some d'=>
         have:d≠d':=by
          rintro rfl
          obtain⟨e,he,X,oe,ak,ai⟩:=zd an ab hgj V;have h1:=(Qu I J).2 e.on oe d ak hdo ai;have h2:=hC j S ab U e he X;rw[h1,af]at h2
          cases h2
         simp[upd,this]
       rw[e];exact aa _ hgj _ Z
   have ag:qbD gs s i o=true→ ∀v W',Below W.heap.size W W'→qbC gs i v W'→K ((lay a0 x (l.filterMap (·.dst))).put o.dst v) W':=fun G v W' ap Y=>by
    unfold qbD at G;simp only[Bool.and_eq_true,bne_iff_ne]at G;refine hK v W' ⟨?_,fun j hj=>?_⟩
    ·have e:setD D i s=D s:=by
      have:(s==i)=false:=by rw[beq_eq_false_iff_ne];exact Ne.symm G.1.2
      simp[setD,this]
     rw[e];exact aB _ _ _ hR.1 ap
    ·by_cases O:j=i
     ·subst O;unfold QT;unfold qbC at Y
      cases hgj:gs[j]? with
      | none=>trivial
      | some g=>
       rw[hgj]at Y G;rw[J]
       cases g with
       | own q=>
        obtain⟨d,V⟩:=Option.isSome_iff_exists.1 G.2;have:qF (yz x o.dst v) o=v:=by unfold qF yz;rw[V];simp[upd]
        show q (qF (yz x o.dst v) o) W'
        rw[this];exact Y
       | far dl q=>simp at G
     ·have U:D j=true:=by
       have X:(j==i)=false:=by rw[beq_eq_false_iff_ne];exact O
       simpa [setD,X] using hj
      exact ac j v W' O U fun g ah=>qaA ax ah W W' ap
   rcases am i o J _ x W hL (fun e he X=>hR.2 _ (ae e he X))with hw|⟨hw,G,ar⟩
   ·rw[if_pos hw];rcases yY al i o J with⟨G,hG⟩|⟨rfl,hS⟩
    ·refine hG _ x W (D s) hL hR.1 (fun aE=>?_) (fun av=>qhp hC J ae av) ao (fun e he X=>hR.2 _ (ae e he X)) K (ag G)
     cases hDs:D s with
     | false=>rfl
     | true=>have:=qbe hC l.length aE hDs;rw[af]at this;cases this
    ·refine hS _ x W hL (af▸hR.1) ao (fun e he X=>hR.2 _ (ae e he X)) K (fun v W' hv ay aa Y=>?_);refine hK v W' ⟨?_,fun j hj=>?_⟩
     ·have:setD D i i=true:=by simp[setD]
      rw[this];exact ay
     ·by_cases O:j=i
      ·subst O;unfold QT;unfold atG at Y
       cases hgj:gs[j]? with
       | none=>trivial
       | some g=>
        rw[hgj]at Y;rw[J]
        cases g with
        | own q=>
         show q (qF (yz x o.dst v) o) W'
         have:qF (yz x o.dst v) o=v:=by
          unfold qF yz
          cases V:o.dst with
          | none=>exact(hv V).symm
          | some d=>simp[upd]
         rw[this];exact Y
        | far dl q=>
         show q (dl.map (yz x o.dst v)) W'
         have e:dl.map (yz x o.dst v)=dl.map x:=by
          refine List.map_congr_left fun d V=>?_
          unfold yz
          cases hdo:o.dst with
          | none=>rfl
          | some d'=>
           have:d≠d':=by
            rintro rfl
            obtain⟨e,he,X,oe,ak,ai⟩:=zd an J hgj V;have h1:=(Qu I J).2 e.on oe d ak hdo ai;have h2:=(Qu I J).1 e he X;omega
           simp[upd,this]
         rw[e];exact Y
      ·have U:D j=true:=by
        have X:(j==i)=false:=by rw[beq_eq_false_iff_ne];exact O
        simpa [setD,X] using hj
       exact ac j v W' O U fun g ah=>qc8 aa ah (by simpa using O) (by
        rw[Nat.zero_add]
        cases ha:jn l i l.length j with
        | false=>rfl
        | true=>have:=qbe hC l.length ha U;rw[af]at this;cases this)
   ·rw[if_neg (by rw[hw];decide)];exact ag G undef W Br (ar W))
  (fun D x W ad hD=>aq x W (hD s▸ad.1.1) (by
   have: ∀(m:List Oper) (n:Nat),ye (fun i _=>QT l gs x W i) n m:=by
    intro m;induction m with
    | nil=>intro n;trivial
    | cons o m ih=>intro n;exact⟨ad.1.2 n (hD n),ih (n+1)⟩
   exact this l 0))
  l.length (Array.replicate l.length false) (fun d=>a0.tmps.getD d undef) w.drew (by simp) (by
   simp only[Array.toList_replicate,Zl,List.countP_replicate];simp) ⟨⟨by
    have:(Array.replicate l.length false).getD s true=false:=by simp[Lh,au]
    show Rb ((Array.replicate l.length false).getD s true) w.drew
    rw[this];exact hw,fun i J=>by
    have aG: ¬i<l.length:=fun aj=>by simp[Lh,aj]at J
    unfold QT;rw[List.getElem?_eq_none (l:=l) (by omega)]
    cases gs[i]? with
    | none=>trivial
    | some g=>cases g<;>trivial⟩,fun _ _ _ _ _ _=>rfl⟩ (fun j S aA ab=>by
    have aj:j<l.length:=(List.getElem?_eq_some_iff.1 aA).1;simp[Lh,aj]at ab)
 rw[z9]at H;exact H
def qa1 (sp:List Sp)(o:Oper):Option Bool:=match o.guard with
 | none=>some true
 | some (j,want)=>match sp[j]? with
  | some (.v _ (.bool b))=>if(o.after.any fun e=>e.on==j&&Region.binds .any e)=true then some (b==want) else none
  | _=>none
def Zv:Option Sp→Bool
 | some (.v _ (.tuple a))=>a.size==0
 | _=>false
def qfs (sp:List Sp)(l:List Oper)(s:Nat):Bool:=(List.range l.length).all fun i=>match l[i]? with
 | some o=>(match qa1 sp o with|some true=>true|some false=>Zv sp[i]? &&i != s&&o.dst.isSome|none=>false)
 | none=>true
theorem qdF {sp:List Sp}{l:List Oper}{ds:List Tmp}{s i:Nat}{o:Oper}{a0 A:Act}{x:Tmp→Value}{W:World}(af:l.filterMap (·.dst)=ds)(hl:l.map (·.dst)=sp.map Sp.dst)(hg:qfs sp l s=true)(ae: ∀e∈o.after,e.on<l.length)(ag:(ds.all fun d=>decide (d<a0.tmps.size))=true)(hA:zP a0 x ds A)(hi:l[i]? =some o)
  (ab: ∀e∈o.after,Region.binds .any e=true→QT l (sp.map Sp.gs) x W e.on):Region.wanted o (yielded l.toArray A.tmps)=true∨(Region.wanted o (yielded l.toArray A.tmps)=false∧qbD (sp.map Sp.gs) s i o=true∧ ∀W,qbC (sp.map Sp.gs) i undef W):=by
 have G:(match qa1 sp o with|some true=>true|some false=>Zv sp[i]? &&i != s&&o.dst.isSome|none=>false)=true:=by
  have G:=List.all_eq_true.1 hg i (List.mem_range.2 (List.getElem?_eq_some_iff.1 hi).1);rw[hi]at G;exact G
 cases hgd:o.guard with
 | none=>exact .inl (by simp[Region.wanted,hgd])
 | some jw=>
  obtain⟨j,I⟩:=jw;have D:qa1 sp o=match sp[j]? with
   | some (.v _ (.bool b))=>if(o.after.any fun e=>e.on==j&&Region.binds .any e)=true then some (b==I) else none
   | _=>none:=by unfold qa1;rw[hgd]
  cases hsj:sp[j]? with
  | none=>rw[D,hsj]at G;cases G
  | some sj=>
   rw[hsj]at D;match sj,hsj,D with
   | .p _ _,_,D=>rw[D]at G;cases G
   | .s _,_,D=>rw[D]at G;cases G
   | .f _ _ _,_,D=>rw[D]at G;cases G
   | .v d u,hsj,D=>
    cases u with
    | bool b=>
     have J:qa1 sp o=if(o.after.any fun e=>e.on==j&&Region.binds .any e)=true then some (b==I) else none:=D
     by_cases Y:(o.after.any fun e=>e.on==j&&Region.binds .any e)=true
     ·rw[if_pos Y]at J;obtain⟨e,he,X⟩:=Array.any_eq_true'.1 Y;rw[Bool.and_eq_true,beq_iff_eq]at X;have S:=ab e he X.2;have Z:=ae e he;rw[X.1]at S Z;obtain⟨V,U⟩: ∃V,l[j]? =some V:=⟨_,List.getElem?_eq_getElem Z⟩;obtain⟨s2,aa,ac⟩:=JL hl U;rw[hsj]at aa;obtain rfl:=Option.some.inj aa;rw[JJ hsj U]at S;have hd:V.dst=some d:=ac.symm;have hv:qF x V=x d:=by unfold qF;rw[hd]
      have hx:x d= .bool b:=by rw[←hv];exact S
      have hm:d∈ds:=by rw[←af];exact j7 U hd
      have O:A.tmps.getD d undef= .bool b:=(hA.1 d hm).trans hx;have ad:A.tmps[d]? =some (.bool b):=by
       rw[Lh]at O
       cases h:A.tmps[d]? with
       | none=>rw[h]at O;exact absurd O (by intro e;cases e)
       | some v=>rw[h]at O;exact congrArg some O
      have hy:yielded l.toArray A.tmps j=some b:=by
       unfold yielded;have:l.toArray[j]? =some V:=by simpa using U
       rw[this];show(match(V.dst).bind (A.tmps[·]?)with|some (.bool b)=>some b|_=>none)=some b
       rw[hd];show(match A.tmps[d]? with|some (.bool b)=>some b|_=>none)=some b
       rw[ad]
      have hw:Region.wanted o (yielded l.toArray A.tmps)=(b==I):=by
       unfold Region.wanted;rw[hgd];show(yielded l.toArray A.tmps j==some I)=_
       rw[hy];rfl
      rw[J]at G
      cases hbw:(b==I)with
      | true=>exact .inl (by rw[hw,hbw])
      | false=>
       rw[hbw]at G;have q:(Zv sp[i]? &&i != s&&o.dst.isSome)=true:=G;rw[Bool.and_eq_true,Bool.and_eq_true]at q;refine .inr ⟨by rw[hw,hbw],?_,fun W=>?_⟩
       ·unfold qbD;rw[List.getElem?_map]
        cases hsi:sp[i]? with
        | none=>rw[hsi]at q;exact absurd q.1.1 (by decide)
        | some si=>
         rw[hsi]at q;match si,q with
         | .v d u,q=>simp only[Option.map_some,Sp.gs,Bool.true_and];rw[q.1.2,q.2];rfl
         | .p _ _,q=>exact absurd q.1.1 (by simp[Zv])
         | .s _,q=>exact absurd q.1.1 (by simp[Zv])
         | .f _ _ _,q=>exact absurd q.1.1 (by simp[Zv])
       ·unfold qbC;rw[List.getElem?_map]
        cases hsi:sp[i]? with
        | none=>trivial
        | some si=>
         rw[hsi]at q;match si,q with
         | .v d (.tuple a),q=>
          have:a= #[]:=Array.eq_empty_of_size_eq_zero (by simpa [Zv] using q.1.1)
          subst this;rfl
         | .v d (.bool _),q=>exact absurd q.1.1 (by simp[Zv])
         | .p _ _,q=>exact absurd q.1.1 (by simp[Zv])
         | .s _,q=>exact absurd q.1.1 (by simp[Zv])
         | .f _ _ _,q=>exact absurd q.1.1 (by simp[Zv])
     ·rw[if_neg Y]at J;rw[J]at G;cases G
    | _=>rw[D]at G;cases G
def qhY (P:Program)(l:List Oper)(ds:List Tmp)(a0:Act)(Rb:Bool→World→Prop)(s:Nat)(sp:List Sp)(i:Nat)(Q:Exit→Act→World→Prop)(o:Oper):Prop:=
 ∀(A:Act) (x:Tmp→Value) (W:World) (f:Bool),zP a0 x ds A→Rb f W→(jn l i l.length s=true→f=false)→(jn l s l.length i=true→f=true)→(∀j oj d,l[j]? =some oj→oj.dst=some d→jn l i l.length j=true→x d=a0.tmps.getD d undef)→(∀e∈o.after,Region.binds .any e=true→QT l (sp.map Sp.gs) x W e.on)→QJ sp A W o.after.toList→
  ∀K:Act→World→Prop,(∀v W',Below W.heap.size W W'→qbC (sp.map Sp.gs) i v W'→K (A.put o.dst v) W')→Oper.wp P o A W K Q
theorem jO {P:Program}{id:Nat}{w:World}{Q:Exit→Act→World→Prop}{a0:Act}{L l tail:List Oper}{n:Nat}{ds:List Tmp}{o:Oper}(J:Bool→World→Prop)(s:Nat)(sp:List Sp)(aj:qaf sp)(hw:J false w.drew)(ak: ∀f W W',J f W→Below W.heap.size W W'→J f W')
  (X:ye (fun i o=>i=s∨qhY P l ds a0 J s sp i (qR P l tail Q) o) 0 l)
  (V:qhq P l ds a0 J s (sp.map Sp.gs) (qR P l tail Q) o)
  (af: ∀(x:Tmp→Value) (W:World),J true W→qaq x W sp→qR P l tail Q .normal (Qx a0 x sp) W)
  (hi:L.take n=l:=by dsimp only[List.take]) (ht:L.drop n=tail:=by dsimp only[List.drop]) (an:Zp .any l tail=true:=by kernel_rfl) (al:sp.filterMap Sp.dst=ds:=by dsimp only[List.filterMap,Sp.dst]) (U:l.map (·.dst)=sp.map Sp.dst:=by rfl)
  (aa:(ds.all fun d=>decide (d<a0.tmps.size))=true:=by rfl) (ah:ds.Nodup:=by decide) (Y:yM l=true:=by kernel_rfl) (hg:qfs sp l s=true:=by kernel_rfl) (ai:Jv l (sp.map Sp.gs)=true:=by kernel_rfl)
  (S:l[s]? =some o:=by rfl) (ae:qeH sp 0 s=true:=by rfl) (ab:JO l=true:=by kernel_rfl) (hm:P.follows .mixedOrders=true:=by kernel_rfl):
  (Code.region id L.toArray true).wp P Q a0 w:=by
 have G:l.filterMap (·.dst)=ds:=(yR U).trans al;have hs:s<l.length:=(List.getElem?_eq_some_iff.1 S).1;refine qbm hi ht an J s ds (sp.map Sp.gs) G aa ah Y (fun i o S A x W Z D=>qdF G U hg (YM ab S) aa Z S D) ai hs hm hw ak (zG aj) ?_ ?_
 ·refine zN l 0 l (fun i o' O h=>?_) X;rw[Nat.zero_add]at h⊢;by_cases I:i=s
  ·subst I;rw[S]at O;obtain rfl:=Option.some.inj O;exact .inr ⟨rfl,V⟩
  ·refine .inl ⟨?_,fun A x W f Z hR hf am hx D K hK=>h.resolve_left I A x W f Z hR hf am hx D (depG G U (YM ab O) Z D) K hK⟩;obtain⟨x,hx,ac⟩:=JL U O;have ad:=qcC ae hx (by rw[Nat.zero_add];exact I);unfold qbD;rw[List.getElem?_map,hx]
   cases x with
   | v d u=>simp[Sp.gs,I,←ac,Sp.dst]
   | p d q=>simp[Sp.gs,I,←ac,Sp.dst]
   | s q=>cases ad
   | f d ds q=>cases ad
 ·intro x W hR ag;obtain⟨h1,h2⟩:=endG (a0:=a0) U ag;rw[G]at h2;rw[h2];exact af x W hR h1
end Go.Proofs.YthjoojnlnlmljaaGreat
