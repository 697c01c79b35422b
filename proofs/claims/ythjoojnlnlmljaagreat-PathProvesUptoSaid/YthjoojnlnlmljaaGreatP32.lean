/- The rows by the document are those that the program makes: plain. No condition. -/
import Derived.Test.YthjoojnlnlmljaaGreatP25
import Derived.Test.YthjoojnlnlmljaaGreatP26
set_option linter.all false
set_option maxRecDepth 100000
set_option maxHeartbeats 8000000
namespace Go.Proofs.YthjoojnlnlmljaaGreat
open Go.ChangeShapes Go.WideShapes Go.ChangeAt Go.RowKit Go.Joins Go.Shelf Go.Maps
theorem qhT {n d:Nat}(o:1≤n)(q:n≤d):qR n d=1:=by
 have:=jm (d:=d) o
 have r: ¬1<qR n d:=fun h=>by have:=(ZA (n:=n) (d:=d) (j:=1) (by omega)).1 h;omega
 omega
theorem zF {t:TreeV}(r:t.validE=0){row:Nat}(X:1≤row){L:List (List Int)}(O:L≠[]):
  (t.upZ row L).length=yj t.fn t.pn row L.length∧(t.rootZ row L.length=true↔yj t.fn t.pn row L.length=1):=by
 have U:=List.length_pos_iff.2 O;have V:=qo r;have G:(t.f=0)↔t.fn=0:=by unfold TreeV.fn;omega
 have J:((row:Int)=t.p - 1)↔row=t.pn - 1:=by unfold TreeV.pn;omega
 unfold TreeV.upZ yj;by_cases q:t.fn=0∨row=t.pn - 1
 ·have o:t.rootZ row L.length=true:=decide_eq_true (by rcases q with h|h;exact .inl (G.2 h);exact .inr (.inl (J.2 h)));rw[if_pos o,if_pos q];exact⟨rfl,by simp[o]⟩
 ·rw[if_neg q]
  cases o:t.rootZ row L.length with
  | true=>
   have I:t.f=0∨(row:Int)=t.p - 1∨(L.length:Int)≤t.f:=of_decide_eq_true o;have D:L.length≤t.fn:=by unfold TreeV.fn;omega
   rw[qhT U D];exact⟨rfl,by simp⟩
  | false=>
   have I:=ZJ r o;rw[if_neg (by simp),QJ];refine⟨rfl,by simp,fun h=>?_⟩;have:=JS (k:=1) (d:=t.fn) (m:=L.length) (by omega) (by omega)
   omega
theorem yc {t:TreeV}{total:Nat}(D:t.err total=0)(q z1 z2:List Int){o:List (List Int)}(G:o.length=lvs total t.ln)(J: ∀z∈o,z.length≤64): ∀r,r<(t.rowsOf total).length→(t.lvlZ q z1 z2 o r).length=nth (t.rowsOf total) r
 | 0,_=>by rw[(qM D).first];exact G
 | r+1,hr=>by
  have I:=Q0 D;have O:o≠[]:=List.length_pos_iff.1 (by rw[G];unfold lvs;omega);have Y:=yc D q z1 z2 G J r (by omega);have X:=Qk I q z1 z2 O J r;have V:=zF I (row:=r+1) (by omega) X.1;have U:(t.lvlZ q z1 z2 o (r+1)).length=(t.upZ (r+1) (t.lvlZ q z1 z2 o r)).length:=TreeV.rowZ_length ..;rw[U,V.1,(qM D).next r hr,Y]
theorem qgv {t:TreeV}{total:Nat}(Y:t.err total=0)(kz z1 z2:List Int){U:List (List Int)}(h0:U.length=lvs total t.ln)(G: ∀z∈U,z.length≤64){r:Nat}(hr:r+1<(t.rowsOf total).length){o D:List (List Int)}(aa:t.lvlZ kz z1 z2 U r=o)(Z:t.upZ (r+1) o=D){i:Nat}(O:i<D.length):
  t.there total ((r+1:Nat):Int) i∧ ∃a b,t.spot total (r+1) i=⟨r+1,i,a,b,decide (i+1=D.length),t.rootZ (r+1) o.length⟩∧a≤b∧b≤o.length∧qK D i=((o.drop a).take (b - a)).flatten:=by
 have hv:=Q0 Y;have ac:U≠[]:=List.length_pos_iff.1 (by rw[h0];unfold lvs;omega);have hf:=Qk hv kz z1 z2 ac G r;have J:=yc Y kz z1 z2 h0 G r (by omega);have hn:=(qM Y).next r hr;rw[aa]at hf J;have hu:=zF hv (row:=r+1) (by omega) hf.1;rw[J,←hn,Z]at hu;obtain⟨X,I⟩:=hu;have hp:=List.length_pos_iff.2 hf.1;refine⟨⟨by omega,by rw[Int.toNat_natCast];exact hr,by rw[Int.toNat_natCast,←X];exact O⟩,?_⟩;unfold TreeV.spot QT;rw[Nat.add_sub_cancel,if_neg (by omega: ¬r+1=0),←J]
 cases hrt:t.rootZ (r+1) o.length with
 | true=>
  rw[←J]at I;have G:=I.1 hrt;rw[if_pos ⟨by omega,G⟩];refine⟨0,o.length,?_,Nat.zero_le _,Nat.le_refl _,?_⟩
  ·rw[G,X,G];congr 1
   rw[decide_eq_decide];omega
  ·have q:D=[o.flatten]:=by rw[←Z];unfold TreeV.upZ;rw[if_pos hrt]
   have:i=0:=by rw[q]at O;simp at O;omega
   subst this;rw[q,List.drop_zero,Nat.sub_zero,List.take_length];rfl
 | false=>
  rw[←J,hrt]at I;have G: ¬nth (t.rowsOf total) (r+1)=1:=fun h=>by have:=I.2 h;cases this
  have af:=ZJ hv hrt;have q:D=ZM t.fn o (qR o.length t.fn):=by rw[←Z];unfold TreeV.upZ;rw[if_neg (by rw[hrt];simp)]
  have ab:D.length=qR o.length t.fn:=by rw[q,QJ]
  have V:qK D i=((o.drop (i*t.fn)).take t.fn).flatten:=by
   rw[ab]at O;rw[q];simp[qK,ZM,ZL,Lg,O]
  have ae:i*t.fn<o.length:=(ZA (by omega)).1 (by omega);rw[if_neg (by rintro⟨-,h⟩;exact G h)];by_cases h:i=nth (t.rowsOf total) (r+1) - 1
  ·rw[if_pos h];refine⟨i*t.fn,o.length,?_,by omega,Nat.le_refl _,?_⟩
   ·rw[decide_eq_true (by omega),if_neg (by omega: ¬r+1=0)]
   ·rw[V];have hd:(o.drop (i*t.fn)).length=o.length - i*t.fn:=by simp
    have ad:o.length - i*t.fn≤t.fn:=by
     have:=JS (m:=o.length) (d:=t.fn) (k:=i+1) (by omega) (by omega)
     rw[Nat.add_mul,Nat.one_mul]at this;omega
    rw[List.take_of_length_le (by omega),List.take_of_length_le (by omega)]
  ·rw[if_neg h];have h3:i+1<qR o.length t.fn:=by omega
   have h4:=(ZA (by omega)).1 h3;refine⟨i*t.fn,(i+1)*t.fn,?_,Nat.mul_le_mul_right _ (by omega),by omega,?_⟩
   ·rw[decide_eq_false (by omega)]
   ·rw[V,Nat.add_mul,Nat.one_mul,Nat.add_sub_cancel_left]
theorem qdz {t:TreeV}{total:Nat}(I:t.err total=0)(D z1 z2:List Int){o:List (List Int)}(J:o.length=lvs total t.ln)(U: ∀z∈o,z.length≤64):t.topAt D z1 z2 o ((t.rowsOf total).length - 1):=by
 have V:=Q0 I;have X:o≠[]:=List.length_pos_iff.1 (by rw[J];unfold lvs;omega);have G:=qM I;have aa:=G.len;have key: ∀q,1≤q→q<(t.rowsOf total).length→(t.rootZ q (t.lvlZ D z1 z2 o (q - 1)).length=true↔nth (t.rowsOf total) q=1):=fun q r Z=>by
  have hf:=Qk V D z1 z2 X U (q - 1);have hu:=(zF V r hf.1).2;have Y:=yc I D z1 z2 J U (q - 1) (by omega);have O:=G.next (q - 1) (by omega);rw[Nat.sub_add_cancel r]at O;rw[hu,Y,O]
 refine⟨by omega,(key _ (by omega) (by omega)).2 G.last,fun q r Z=>?_⟩;have:=(key q r (by omega))
 cases hrt:t.rootZ q (t.lvlZ D z1 z2 o (q - 1)).length with
 | false=>rfl
 | true=>exact absurd (this.1 hrt) (G.more q r (by omega))
end Go.Proofs.YthjoojnlnlmljaaGreat
