/- The rows by the document are those that the program makes: plain. No condition. -/
import Derived.Test.YthjoojnlnlmljaaGreatB34
import Derived.Test.YthjoojnlnlmljaaGreatB07
set_option linter.all false
set_option maxRecDepth 100000
set_option maxHeartbeats 8000000
namespace Go.Proofs.YthjoojnlnlmljaaGreat
open Go.ChangeShapes Go.WideShapes Go.ChangeAt Go.RowKit Go.Joins Go.Shelf Go.Maps
theorem qiV {n d:Nat}(o:1≤n)(r:n≤d):qP n d=1:=by
 have:=ZD (d:=d) o
 have q: ¬1<qP n d:=fun h=>by have:=(Zh (n:=n) (d:=d) (j:=1) (by omega)).1 h;omega
 omega
theorem Y0 {t:TreeV}(r:t.validE=0){row:Nat}(V:1≤row){L:List (List Int)}(O:L≠[]):
  (t.upZ row L).length=yn t.fn t.pn row L.length∧(t.rootZ row L.length=true↔yn t.fn t.pn row L.length=1):=by
 have I:=List.length_pos_iff.2 O;have U:=qn r;have S:(t.f=0)↔t.fn=0:=by unfold TreeV.fn;omega
 have J:((row:Int)=t.p - 1)↔row=t.pn - 1:=by unfold TreeV.pn;omega
 unfold TreeV.upZ yn;by_cases q:t.fn=0∨row=t.pn - 1
 ·have o:t.rootZ row L.length=true:=decide_eq_true (by rcases q with h|h;exact .inl (S.2 h);exact .inr (.inl (J.2 h)));rw[if_pos o,if_pos q];exact⟨rfl,by simp[o]⟩
 ·rw[if_neg q]
  cases o:t.rootZ row L.length with
  | true=>
   have D:t.f=0∨(row:Int)=t.p - 1∨(L.length:Int)≤t.f:=of_decide_eq_true o;have G:L.length≤t.fn:=by unfold TreeV.fn;omega
   rw[qiV I G];exact⟨rfl,by simp⟩
  | false=>
   have D:=zN r o;rw[if_neg (by simp),Qm];refine⟨rfl,by simp,fun h=>?_⟩;have:=j6 (k:=1) (d:=t.fn) (m:=L.length) (by omega) (by omega)
   omega
theorem QK {t:TreeV}{total:Nat}(q:t.err total=0)(kz z1 z2:List Int){o:List (List Int)}(D:o.length=lvs total t.ln)(G: ∀z∈o,z.length≤64): ∀r,r<(t.rowsOf total).length→(t.lvlZ kz z1 z2 o r).length=nth (t.rowsOf total) r
 | 0,_=>by rw[(qF q).first];exact D
 | r+1,hr=>by
  have J:=Q5 q;have I:o≠[]:=List.length_pos_iff.1 (by rw[D];unfold lvs;omega);have O:=QK q kz z1 z2 D G r (by omega);have S:=Qo J kz z1 z2 I G r;have V:=Y0 J (row:=r+1) (by omega) S.1;have U:(t.lvlZ kz z1 z2 o (r+1)).length=(t.upZ (r+1) (t.lvlZ kz z1 z2 o r)).length:=TreeV.rowZ_length ..;rw[U,V.1,(qF q).next r hr,O]
theorem qcY {t:TreeV}{total:Nat}(Y:t.err total=0)(kz z1 z2:List Int){O:List (List Int)}(h0:O.length=lvs total t.ln)(q: ∀z∈O,z.length≤64){r:Nat}(hr:r+1<(t.rowsOf total).length){o D:List (List Int)}(ac:t.lvlZ kz z1 z2 O r=o)(V:t.upZ (r+1) o=D){i:Nat}(hi:i<D.length):
  t.there total ((r+1:Nat):Int) i∧ ∃a b,t.spot total (r+1) i=⟨r+1,i,a,b,decide (i+1=D.length),t.rootZ (r+1) o.length⟩∧a≤b∧b≤o.length∧qC D i=((o.drop a).take (b - a)).flatten:=by
 have Z:=Q5 Y;have ab:O≠[]:=List.length_pos_iff.1 (by rw[h0];unfold lvs;omega);have X:=Qo Z kz z1 z2 ab q r;have J:=QK Y kz z1 z2 h0 q r (by omega);have hn:=(qF Y).next r hr;rw[ac]at X J;have hu:=Y0 Z (row:=r+1) (by omega) X.1;rw[J,←hn,V]at hu;obtain⟨S,I⟩:=hu;have hp:=List.length_pos_iff.2 X.1;refine⟨⟨by omega,by rw[Int.toNat_natCast];exact hr,by rw[Int.toNat_natCast,←S];exact hi⟩,?_⟩;unfold TreeV.spot QV;rw[Nat.add_sub_cancel,if_neg (by omega: ¬r+1=0),←J]
 cases hrt:t.rootZ (r+1) o.length with
 | true=>
  rw[←J]at I;have q:=I.1 hrt;rw[if_pos ⟨by omega,q⟩];refine⟨0,o.length,?_,Nat.zero_le _,Nat.le_refl _,?_⟩
  ·rw[q,S,q];congr 1
   rw[decide_eq_decide];omega
  ·have G:D=[o.flatten]:=by rw[←V];unfold TreeV.upZ;rw[if_pos hrt]
   have:i=0:=by rw[G]at hi;simp at hi;omega
   subst this;rw[G,List.drop_zero,Nat.sub_zero,List.take_length];rfl
 | false=>
  rw[←J,hrt]at I;have q: ¬nth (t.rowsOf total) (r+1)=1:=fun h=>by have:=I.2 h;cases this
  have ae:=zN Z hrt;have G:D=ZA t.fn o (qP o.length t.fn):=by rw[←V];unfold TreeV.upZ;rw[if_neg (by rw[hrt];simp)]
  have aa:D.length=qP o.length t.fn:=by rw[G,Qm]
  have U:qC D i=((o.drop (i*t.fn)).take t.fn).flatten:=by
   rw[aa]at hi;rw[G];simp[qC,ZA,piece,Lg,hi]
  have af:i*t.fn<o.length:=(Zh (by omega)).1 (by omega);rw[if_neg (by rintro⟨-,h⟩;exact q h)];by_cases h:i=nth (t.rowsOf total) (r+1) - 1
  ·rw[if_pos h];refine⟨i*t.fn,o.length,?_,by omega,Nat.le_refl _,?_⟩
   ·rw[decide_eq_true (by omega),if_neg (by omega: ¬r+1=0)]
   ·rw[U];have hd:(o.drop (i*t.fn)).length=o.length - i*t.fn:=by simp
    have ad:o.length - i*t.fn≤t.fn:=by
     have:=j6 (m:=o.length) (d:=t.fn) (k:=i+1) (by omega) (by omega)
     rw[Nat.add_mul,Nat.one_mul]at this;omega
    rw[List.take_of_length_le (by omega),List.take_of_length_le (by omega)]
  ·rw[if_neg h];have h3:i+1<qP o.length t.fn:=by omega
   have h4:=(Zh (by omega)).1 h3;refine⟨i*t.fn,(i+1)*t.fn,?_,Nat.mul_le_mul_right _ (by omega),by omega,?_⟩
   ·rw[decide_eq_false (by omega)]
   ·rw[U,Nat.add_mul,Nat.one_mul,Nat.add_sub_cancel_left]
theorem qee {t:TreeV}{total:Nat}(G:t.err total=0)(kz z1 z2:List Int){o:List (List Int)}(O:o.length=lvs total t.ln)(I: ∀z∈o,z.length≤64):t.topAt kz z1 z2 o ((t.rowsOf total).length - 1):=by
 have U:=Q5 G;have J:o≠[]:=List.length_pos_iff.1 (by rw[O];unfold lvs;omega);have D:=qF G;have Y:=D.len;have key: ∀q,1≤q→q<(t.rowsOf total).length→(t.rootZ q (t.lvlZ kz z1 z2 o (q - 1)).length=true↔nth (t.rowsOf total) q=1):=fun q r h3=>by
  have Z:=Qo U kz z1 z2 J I (q - 1);have V:=(Y0 U r Z.1).2;have X:=QK G kz z1 z2 O I (q - 1) (by omega);have S:=D.next (q - 1) (by omega);rw[Nat.sub_add_cancel r]at S;rw[V,X,S]
 refine⟨by omega,(key _ (by omega) (by omega)).2 D.last,fun q r h3=>?_⟩;have:=(key q r (by omega))
 cases hrt:t.rootZ q (t.lvlZ kz z1 z2 o (q - 1)).length with
 | false=>rfl
 | true=>exact absurd (this.1 hrt) (D.more q r (by omega))
end Go.Proofs.YthjoojnlnlmljaaGreat
