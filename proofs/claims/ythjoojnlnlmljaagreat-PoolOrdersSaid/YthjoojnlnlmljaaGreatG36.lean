/- Row by row up to the root: plain. No condition. -/
import Derived.Test.YthjoojnlnlmljaaGreatG32
import Derived.Test.YthjoojnlnlmljaaGreatG25
set_option linter.all false
set_option maxRecDepth 100000
set_option maxHeartbeats 8000000
namespace Go.Proofs.YthjoojnlnlmljaaGreat
open Go.ChangeShapes Go.WideShapes Go.ChangeAt Go.RowKit Go.Joins Go.Shelf Go.Maps
def TreeV.lvlZ (t:TreeV)(kz z1 z2:List Int)(L0:List (List Int)):Nat→List (List Int)
 | 0=>L0
 | r+1=>t.rowZ kz z1 z2 (r+1) (t.rootZ (r+1) (t.lvlZ kz z1 z2 L0 r).length) (t.upZ (r+1) (t.lvlZ kz z1 z2 L0 r)) (t.upZ (r+1) (t.lvlZ kz z1 z2 L0 r)).length
theorem Zt {t:TreeV}(h:t.validE=0){row n:Nat}(o:t.rootZ row n=false):2≤t.fn∧t.fn<n∧t.fn≤255:=by
 have D:=(qq h).2.2.2.2.2.1;have q: ¬(t.f=0∨(row:Int)=t.p - 1∨(n:Int)≤t.f):=of_decide_eq_false o;unfold TreeV.fn;omega
theorem YO {t:TreeV}(h:t.validE=0)(row:Nat){L:List (List Int)}(q:L≠[]):1≤(t.upZ row L).length∧(t.upZ row L).length≤L.length:=by
 have o:=List.length_pos_iff.2 q;unfold TreeV.upZ
 cases hr:t.rootZ row L.length with
 | true=>exact⟨Nat.le_refl _,o⟩
 | false=>
  have:=Zt h hr
  rw[if_neg (by simp),Zn];exact⟨Z7 o,YM (by omega)⟩
theorem zk (t:TreeV)(row:Nat)(L:List (List Int))(i:Nat):(qQ (t.upZ row L) i).length≤L.flatten.length:=by
 unfold TreeV.upZ;split
 ·cases i<;>simp[qQ]
 ·unfold qQ qcB;rw[Lg,List.getElem?_map]
  cases(List.range (qY L.length t.fn))[i]? with
  | none=>simp
  | some j=>exact zE (qck t.fn L j)
theorem qbK (t:TreeV)(kz z1 z2:List Int)(row i:Nat)(o q:Bool)(d:List Int):(t.node kz z1 z2 row i o q d).length≤64:=by
 have G:(zc t.big (h0Z t.big (t.blk z1 z2 row i)) (yk (bB t.big) (Z1 row kz)++d) o).length=mB t.big:=zz _ _ _ _;have D:mB t.big≤64:=by cases t.big<;>decide
 unfold TreeV.node jO;rw[List.length_take];omega
theorem Zx (t:TreeV)(kz z1 z2:List Int)(row:Nat)(q:Bool)(L:List (List Int))(m:Nat): ∀z∈t.rowZ kz z1 z2 row q L m,z.length≤64:=fun z o=>by
 obtain⟨i, -,rfl⟩:=List.mem_map.1 o;exact qbK ..
theorem yZ: ∀{L:List (List Int)},(∀z∈L,z.length≤64)→L.flatten.length≤64*L.length
 | [],_=>Nat.le_refl _
 | z::L,h=>by
  have D:=h z (List.mem_cons_self ..);have q:=yZ (L:=L) (fun y o=>h y (List.mem_cons_of_mem _ o));simp only[List.flatten_cons,List.length_append,List.length_cons];omega
theorem QM {t:TreeV}(h:t.validE=0)(kz z1 z2:List Int){L0:List (List Int)}(q:L0≠[])(o: ∀z∈L0,z.length≤64): ∀r,t.lvlZ kz z1 z2 L0 r≠[]∧(t.lvlZ kz z1 z2 L0 r).length≤L0.length∧ ∀z∈t.lvlZ kz z1 z2 L0 r,z.length≤64
 | 0=>⟨q,Nat.le_refl _,o⟩
 | r+1=>by
  obtain⟨D,I,O⟩:=QM h kz z1 z2 q o r;have U:=YO h (r+1) D;have J:(t.lvlZ kz z1 z2 L0 (r+1)).length=(t.upZ (r+1) (t.lvlZ kz z1 z2 L0 r)).length:=qK ..;exact⟨List.length_pos_iff.1 (by omega),by omega,fun z G=>Zx _ _ _ _ _ _ _ _ z G⟩
theorem qhV {n d:Nat}(o:1≤n)(q:n≤d):qY n d=1:=by
 have:=Z7 (d:=d) o
 have D: ¬1<qY n d:=fun h=>by have:=(qde (n:=n) (d:=d) (j:=1) (by omega)).1 h;omega
 omega
theorem jc {t:TreeV}(D:t.validE=0){row:Nat}(Y:1≤row){L:List (List Int)}(V:L≠[]):
  (t.upZ row L).length=yb t.fn t.pn row L.length∧(t.rootZ row L.length=true↔yb t.fn t.pn row L.length=1):=by
 have I:=List.length_pos_iff.2 V;have X:=qq D;have G:(t.f=0)↔t.fn=0:=by unfold TreeV.fn;omega
 have J:((row:Int)=t.p - 1)↔row=t.pn - 1:=by unfold TreeV.pn;omega
 unfold TreeV.upZ yb;by_cases q:t.fn=0∨row=t.pn - 1
 ·have o:t.rootZ row L.length=true:=decide_eq_true (by rcases q with h|h;exact .inl (G.2 h);exact .inr (.inl (J.2 h)));rw[if_pos o,if_pos q];exact⟨rfl,by simp[o]⟩
 ·rw[if_neg q]
  cases o:t.rootZ row L.length with
  | true=>
   have O:t.f=0∨(row:Int)=t.p - 1∨(L.length:Int)≤t.f:=of_decide_eq_true o;have U:L.length≤t.fn:=by unfold TreeV.fn;omega
   rw[qhV I U];exact⟨rfl,by simp⟩
  | false=>
   have O:=Zt D o;rw[if_neg (by simp),Zn];refine⟨rfl,by simp,fun h=>?_⟩;have:=qaZ (k:=1) (d:=t.fn) (m:=L.length) (by omega) (by omega)
   omega
theorem Q4 {t:TreeV}{total:Nat}(o:t.err total=0)(kz z1 z2:List Int){L0:List (List Int)}(q:L0.length=lvs total t.ln)(I: ∀z∈L0,z.length≤64): ∀r,r<(t.rowsOf total).length→(t.lvlZ kz z1 z2 L0 r).length=nth (t.rowsOf total) r
 | 0,_=>by rw[(qM o).first];exact q
 | r+1,hr=>by
  have D:=qW o;have G:L0≠[]:=List.length_pos_iff.1 (by rw[q];unfold lvs;omega);have J:=Q4 o kz z1 z2 q I r (by omega);have V:=QM D kz z1 z2 G I r;have U:=jc D (row:=r+1) (by omega) V.1;have O:(t.lvlZ kz z1 z2 L0 (r+1)).length=(t.upZ (r+1) (t.lvlZ kz z1 z2 L0 r)).length:=qK ..;rw[O,U.1,(qM o).next r hr,J]
theorem qcq {t:TreeV}{total:Nat}(Y:t.err total=0)(kz z1 z2:List Int){L0:List (List Int)}(h0:L0.length=lvs total t.ln)(G: ∀z∈L0,z.length≤64){r:Nat}(hr:r+1<(t.rowsOf total).length){o D:List (List Int)}(ac:t.lvlZ kz z1 z2 L0 r=o)(Z:t.upZ (r+1) o=D){i:Nat}(J:i<D.length):
  t.there total ((r+1:Nat):Int) i∧ ∃a b,t.spot total (r+1) i=⟨r+1,i,a,b,decide (i+1=D.length),t.rootZ (r+1) o.length⟩∧a≤b∧b≤o.length∧qQ D i=((o.drop a).take (b - a)).flatten:=by
 have X:=qW Y;have ab:L0≠[]:=List.length_pos_iff.1 (by rw[h0];unfold lvs;omega);have hf:=QM X kz z1 z2 ab G r;have O:=Q4 Y kz z1 z2 h0 G r (by omega);have hn:=(qM Y).next r hr;rw[ac]at hf O;have hu:=jc X (row:=r+1) (by omega) hf.1;rw[O,←hn,Z]at hu;obtain⟨V,I⟩:=hu;have hp:=List.length_pos_iff.2 hf.1;refine⟨⟨by omega,by rw[Int.toNat_natCast];exact hr,by rw[Int.toNat_natCast,←V];exact J⟩,?_⟩;unfold TreeV.spot Qv;rw[Nat.add_sub_cancel,if_neg (by omega: ¬r+1=0),←O]
 cases hrt:t.rootZ (r+1) o.length with
 | true=>
  rw[←O]at I;have G:=I.1 hrt;rw[if_pos ⟨by omega,G⟩];refine⟨0,o.length,?_,Nat.zero_le _,Nat.le_refl _,?_⟩
  ·rw[G,V,G];congr 1
   rw[decide_eq_decide];omega
  ·have q:D=[o.flatten]:=by rw[←Z];unfold TreeV.upZ;rw[if_pos hrt]
   have:i=0:=by rw[q]at J;simp at J;omega
   subst this;rw[q,List.drop_zero,Nat.sub_zero,List.take_length];rfl
 | false=>
  rw[←O,hrt]at I;have G: ¬nth (t.rowsOf total) (r+1)=1:=fun h=>by have:=I.2 h;cases this
  have ad:=Zt X hrt;have q:D=qcB t.fn o (qY o.length t.fn):=by rw[←Z];unfold TreeV.upZ;rw[if_neg (by rw[hrt];simp)]
  have aa:D.length=qY o.length t.fn:=by rw[q,Zn]
  have U:qQ D i=((o.drop (i*t.fn)).take t.fn).flatten:=by
   rw[aa]at J;rw[q];simp[qQ,qcB,qcl,Lg,J]
  have af:i*t.fn<o.length:=(qde (by omega)).1 (by omega);rw[if_neg (by rintro⟨-,h⟩;exact G h)];by_cases h:i=nth (t.rowsOf total) (r+1) - 1
  ·rw[if_pos h];refine⟨i*t.fn,o.length,?_,by omega,Nat.le_refl _,?_⟩
   ·rw[decide_eq_true (by omega),if_neg (by omega: ¬r+1=0)]
   ·rw[U];have hd:(o.drop (i*t.fn)).length=o.length - i*t.fn:=by simp
    have ae:o.length - i*t.fn≤t.fn:=by
     have:=qaZ (m:=o.length) (d:=t.fn) (k:=i+1) (by omega) (by omega)
     rw[Nat.add_mul,Nat.one_mul]at this;omega
    rw[List.take_of_length_le (by omega),List.take_of_length_le (by omega)]
  ·rw[if_neg h];have h3:i+1<qY o.length t.fn:=by omega
   have h4:=(qde (by omega)).1 h3;refine⟨i*t.fn,(i+1)*t.fn,?_,Nat.mul_le_mul_right _ (by omega),by omega,?_⟩
   ·rw[decide_eq_false (by omega)]
   ·rw[U,Nat.add_mul,Nat.one_mul,Nat.add_sub_cancel_left]
end Go.Proofs.YthjoojnlnlmljaaGreat
