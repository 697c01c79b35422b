/- Lemmas. No condition. -/
import Derived.Test.YtahenngmaoellaaGreatO33
import Derived.Test.YtahenngmaoellaaGreatO07
set_option linter.all false
set_option maxRecDepth 100000
set_option maxHeartbeats 0
namespace Go.Proofs.YtahenngmaoellaaGreat
open Go.ChangeShapes Go.WideShapes Go.ChangeAt Go.RowKit Go.Joins Go.Shelf Go.Maps
variable{t:TreeV}{total:Nat}
theorem qji {n d:Nat}(o:1<=n)(r:n<=d):qP n d=1:=by
 have:=ZQ (d:=d) o
 have q: ¬1<qP n d:=fun h=>by have:=(Zu (n:=n) (d:=d) (j:=1) (by omega)).1 h;omega
 omega
theorem zc (r:t.validE=0){row:Nat}(V:1<=row){L:List (List Int)}(I:L≠[]):
  (t.upZ row L).length=yv t.fn t.pn row L.length/\(t.rootZ row L.length=true↔yv t.fn t.pn row L.length=1):=by
 have J:=List.length_pos_iff.2 I;have U:=qn r;have D:(t.f=0)↔t.fn=0:=by unfold TreeV.fn;omega
 have O:((row:Int)=t.p - 1)↔row=t.pn - 1:=by unfold TreeV.pn;omega
 unfold TreeV.upZ yv;by_cases q:t.fn=0\/row=t.pn - 1
 ·have o:t.rootZ row L.length=true:=decide_eq_true (by rcases q with h|h;exact .inl (D.2 h);exact .inr (.inl (O.2 h)));rw[if_pos o,if_pos q];exact⟨rfl,by simp[o]⟩
 ·rw[if_neg q]
  cases o:t.rootZ row L.length with
  | true=>
   have G:t.f=0\/(row:Int)=t.p - 1\/(L.length:Int)<=t.f:=of_decide_eq_true o;have S:L.length<=t.fn:=by unfold TreeV.fn;omega
   rw[qji J S];exact⟨rfl,by simp⟩
  | false=>
   have G:=zX r o;rw[if_neg (by simp),Qm];refine⟨rfl,by simp,fun h=>?_⟩;have:=Jj (k:=1) (d:=t.fn) (m:=L.length) (by omega) (by omega)
   omega
theorem QL {t:TreeV}{total:Nat}(q:t.err total=0)(kz z1 z2:List Int){o:List (List Int)}(D:o.length=lvs total t.ln)(I: ∀z∈o,z.length<=64): ∀r,r<(t.rowsOf total).length->(t.lvlZ kz z1 z2 o r).length=nth (t.rowsOf total) r
 | 0,_=>by rw[(qG q).first];exact D
 | r+1,hr=>by
  have G:=Q9 q;have J:o≠[]:=List.length_pos_iff.1 (by rw[D];unfold lvs;omega);have U:=QL q kz z1 z2 D I r (by omega);have V:=Qo G kz z1 z2 J I r;have O:=zc G (row:=r+1) (by omega) V.1;have S:(t.lvlZ kz z1 z2 o (r+1)).length=(t.upZ (r+1) (t.lvlZ kz z1 z2 o r)).length:=TreeV.rowZ_length ..;rw[S,O.1,(qG q).next r hr,U]
theorem qdh (Y:t.err total=0)(kz z1 z2:List Int){S:List (List Int)}(h0:S.length=lvs total t.ln)(I: ∀z∈S,z.length<=64){r:Nat}(hr:r+1<(t.rowsOf total).length){q D:List (List Int)}(ab:t.lvlZ kz z1 z2 S r=q)(Z:t.upZ (r+1) q=D){i:Nat}(hi:i<D.length):
  t.there total ((r+1:Nat):Int) i/\ ∃a b,t.spot total (r+1) i=⟨r+1,i,a,b,decide (i+1=D.length),t.rootZ (r+1) q.length⟩/\a<=b/\b<=q.length/\qC D i=((q.drop a).take (b - a)).flatten:=by
 have hv:=Q9 Y;have aa:S≠[]:=List.length_pos_iff.1 (by rw[h0];unfold lvs;omega);have X:=Qo hv kz z1 z2 aa I r;have O:=QL Y kz z1 z2 h0 I r (by omega);have hn:=(qG Y).next r hr;rw[ab]at X O;have hu:=zc hv (row:=r+1) (by omega) X.1;rw[O,<-hn,Z]at hu;obtain⟨V,J⟩:=hu;have hp:=List.length_pos_iff.2 X.1;refine⟨⟨by omega,by rw[Int.toNat_natCast];exact hr,by rw[Int.toNat_natCast,<-V];exact hi⟩,?_⟩;unfold TreeV.spot QZ;rw[Nat.add_sub_cancel,if_neg (by omega: ¬r+1=0),<-O]
 cases hrt:t.rootZ (r+1) q.length with
 | true=>
  rw[<-O]at J;have I:=J.1 hrt;rw[if_pos ⟨by omega,I⟩];refine⟨0,q.length,?_,Nat.zero_le _,Nat.le_refl _,?_⟩
  ·rw[I,V,I];congr 1
   rw[decide_eq_decide];omega
  ·have G:D=[q.flatten]:=by rw[<-Z];unfold TreeV.upZ;rw[if_pos hrt]
   have:i=0:=by rw[G]at hi;simp at hi;omega
   subst this;rw[G,List.drop_zero,Nat.sub_zero,List.take_length];rfl
 | false=>
  rw[<-O,hrt]at J;have I: ¬nth (t.rowsOf total) (r+1)=1:=fun h=>by have:=J.2 h;cases this
  have ae:=zX hv hrt;have G:D=ZN t.fn q (qP q.length t.fn):=by rw[<-Z];unfold TreeV.upZ;rw[if_neg (by rw[hrt];simp)]
  have ac:D.length=qP q.length t.fn:=by rw[G,Qm]
  have U:qC D i=((q.drop (i*t.fn)).take t.fn).flatten:=by
   rw[ac]at hi;rw[G];simp[qC,ZN,piece,Lg,hi]
  have ad:i*t.fn<q.length:=(Zu (by omega)).1 (by omega);rw[if_neg (by rintro⟨-,h⟩;exact I h)];by_cases h:i=nth (t.rowsOf total) (r+1) - 1
  ·rw[if_pos h];refine⟨i*t.fn,q.length,?_,by omega,Nat.le_refl _,?_⟩
   ·rw[decide_eq_true (by omega),if_neg (by omega: ¬r+1=0)]
   ·rw[U];have hd:(q.drop (i*t.fn)).length=q.length - i*t.fn:=by simp
    have af:q.length - i*t.fn<=t.fn:=by
     have:=Jj (m:=q.length) (d:=t.fn) (k:=i+1) (by omega) (by omega)
     rw[Nat.add_mul,Nat.one_mul]at this;omega
    rw[List.take_of_length_le (by omega),List.take_of_length_le (by omega)]
  ·rw[if_neg h];have h3:i+1<qP q.length t.fn:=by omega
   have h4:=(Zu (by omega)).1 h3;refine⟨i*t.fn,(i+1)*t.fn,?_,Nat.mul_le_mul_right _ (by omega),by omega,?_⟩
   ·rw[decide_eq_false (by omega)]
   ·rw[U,Nat.add_mul,Nat.one_mul,Nat.add_sub_cancel_left]
theorem qeu (G:t.err total=0)(kz z1 z2:List Int){o:List (List Int)}(O:o.length=lvs total t.ln)(S: ∀z∈o,z.length<=64):t.topAt kz z1 z2 o ((t.rowsOf total).length - 1):=by
 have U:=Q9 G;have J:o≠[]:=List.length_pos_iff.1 (by rw[O];unfold lvs;omega);have D:=qG G;have Z:=D.len;have key: ∀q,1<=q->q<(t.rowsOf total).length->(t.rootZ q (t.lvlZ kz z1 z2 o (q - 1)).length=true↔nth (t.rowsOf total) q=1):=fun q r V=>by
  have X:=Qo U kz z1 z2 J S (q - 1);have Y:=(zc U r X.1).2;have hb:=QL G kz z1 z2 O S (q - 1) (by omega);have I:=D.next (q - 1) (by omega);rw[Nat.sub_add_cancel r]at I;rw[Y,hb,I]
 refine⟨by omega,(key _ (by omega) (by omega)).2 D.last,fun q r V=>?_⟩;have:=(key q r (by omega))
 cases hrt:t.rootZ q (t.lvlZ kz z1 z2 o (q - 1)).length with
 | false=>rfl
 | true=>exact absurd (this.1 hrt) (D.more q r (by omega))
