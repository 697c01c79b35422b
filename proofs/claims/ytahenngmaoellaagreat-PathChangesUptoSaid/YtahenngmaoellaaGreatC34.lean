/- The rows by the document are those that the program makes: plain. No condition. -/
import Derived.Test.YtahenngmaoellaaGreatC26
import Derived.Test.YtahenngmaoellaaGreatC27
set_option linter.all false
set_option maxRecDepth 100000
set_option maxHeartbeats 8000000
namespace Go.Proofs.YtahenngmaoellaaGreat
open Go.ChangeShapes Go.WideShapes Go.ChangeAt Go.RowKit Go.Joins Go.Shelf Go.Maps
theorem qhA {n d:Nat}(h1:1≤n)(h2:n≤d):qH n d=1:=by
 have:=z8 (d:=d) h1
 have h3: ¬1<qH n d:=fun h=>by have:=(zF (n:=n) (d:=d) (j:=1) (by omega)).1 h;omega
 omega
theorem YB {t:TreeV}(hv:t.validE=0){row:Nat}(hr:1≤row){L:List (List Int)}(hL:L≠[]):
  (t.upZ row L).length=Q6 t.fn t.pn row L.length∧(t.rootZ row L.length=true↔Q6 t.fn t.pn row L.length=1):=by
 have hp:=List.length_pos_iff.2 hL;have hvf:=qk hv;have e1:(t.f=0)↔t.fn=0:=by unfold TreeV.fn;omega
 have e2:((row:Int)=t.p - 1)↔row=t.pn - 1:=by unfold TreeV.pn;omega
 unfold TreeV.upZ Q6;by_cases hc:t.fn=0∨row=t.pn - 1
 ·have hrt:t.rootZ row L.length=true:=decide_eq_true (by rcases hc with h|h;exact .inl (e1.2 h);exact .inr (.inl (e2.2 h)));rw[if_pos hrt,if_pos hc];exact⟨rfl,by simp[hrt]⟩
 ·rw[if_neg hc]
  cases hrt:t.rootZ row L.length with
  | true=>
   have h3:t.f=0∨(row:Int)=t.p - 1∨(L.length:Int)≤t.f:=of_decide_eq_true hrt;have h4:L.length≤t.fn:=by unfold TreeV.fn;omega
   rw[qhA hp h4];exact⟨rfl,by simp⟩
  | false=>
   have h3:=zi hv hrt;rw[if_neg (by simp),Qf];refine⟨rfl,by simp,fun h=>?_⟩;have:=jv (k:=1) (d:=t.fn) (m:=L.length) (by omega) (by omega)
   omega
theorem QP {t:TreeV}{total:Nat}(he:t.err total=0)(kz z1 z2:List Int){L0:List (List Int)}(h0:L0.length=lvs total t.ln)(h1: ∀z∈L0,z.length≤64): ∀r,r<(t.rowsOf total).length→(t.lvlZ kz z1 z2 L0 r).length=nth (t.rowsOf total) r
 | 0,_=>by rw[(qA he).first];exact h0
 | r+1,hr=>by
  have hv:=QU he;have hL0:L0≠[]:=List.length_pos_iff.1 (by rw[h0];unfold lvs;omega);have ih:=QP he kz z1 z2 h0 h1 r (by omega);have hf:=Qa hv kz z1 z2 hL0 h1 r;have hu:=YB hv (row:=r+1) (by omega) hf.1;have hl:(t.lvlZ kz z1 z2 L0 (r+1)).length=(t.upZ (r+1) (t.lvlZ kz z1 z2 L0 r)).length:=TreeV.rowZ_length ..;rw[hl,hu.1,(qA he).next r hr,ih]
theorem qb3 {t:TreeV}{total:Nat}(he:t.err total=0)(kz z1 z2:List Int){L0:List (List Int)}(h0:L0.length=lvs total t.ln)(h1: ∀z∈L0,z.length≤64){r:Nat}(hr:r+1<(t.rowsOf total).length){Lb D:List (List Int)}(hLb:t.lvlZ kz z1 z2 L0 r=Lb)(hD:t.upZ (r+1) Lb=D){i:Nat}(hi:i<D.length):
  t.there total ((r+1:Nat):Int) i∧ ∃a b,t.spot total (r+1) i=⟨r+1,i,a,b,decide (i+1=D.length),t.rootZ (r+1) Lb.length⟩∧a≤b∧b≤Lb.length∧qz D i=((Lb.drop a).take (b - a)).flatten:=by
 have hv:=QU he;have hL0:L0≠[]:=List.length_pos_iff.1 (by rw[h0];unfold lvs;omega);have hf:=Qa hv kz z1 z2 hL0 h1 r;have hb:=QP he kz z1 z2 h0 h1 r (by omega);have hn:=(qA he).next r hr;rw[hLb]at hf hb;have hu:=YB hv (row:=r+1) (by omega) hf.1;rw[hb,←hn,hD]at hu;obtain⟨hu1,hu2⟩:=hu;have hp:=List.length_pos_iff.2 hf.1;refine⟨⟨by omega,by rw[Int.toNat_natCast];exact hr,by rw[Int.toNat_natCast,←hu1];exact hi⟩,?_⟩;unfold TreeV.spot QM;rw[Nat.add_sub_cancel,if_neg (by omega: ¬r+1=0),←hb]
 cases hrt:t.rootZ (r+1) Lb.length with
 | true=>
  rw[←hb]at hu2;have h1:=hu2.1 hrt;rw[if_pos ⟨by omega,h1⟩];refine⟨0,Lb.length,?_,Nat.zero_le _,Nat.le_refl _,?_⟩
  ·rw[h1,hu1,h1];congr 1
   rw[decide_eq_decide];omega
  ·have hDe:D=[Lb.flatten]:=by rw[←hD];unfold TreeV.upZ;rw[if_pos hrt]
   have:i=0:=by rw[hDe]at hi;simp at hi;omega
   subst this;rw[hDe,List.drop_zero,Nat.sub_zero,List.take_length];rfl
 | false=>
  rw[←hb,hrt]at hu2;have h1: ¬nth (t.rowsOf total) (r+1)=1:=fun h=>by have:=hu2.2 h;cases this
  have hfn:=zi hv hrt;have hDe:D=zZ t.fn Lb (qH Lb.length t.fn):=by rw[←hD];unfold TreeV.upZ;rw[if_neg (by rw[hrt];simp)]
  have hDl:D.length=qH Lb.length t.fn:=by rw[hDe,Qf]
  have hit:qz D i=((Lb.drop (i*t.fn)).take t.fn).flatten:=by
   rw[hDl]at hi;rw[hDe];simp[qz,zZ,piece,Lg,hi]
  have hil:i*t.fn<Lb.length:=(zF (by omega)).1 (by omega);rw[if_neg (by rintro⟨-,h⟩;exact h1 h)];by_cases h:i=nth (t.rowsOf total) (r+1) - 1
  ·rw[if_pos h];refine⟨i*t.fn,Lb.length,?_,by omega,Nat.le_refl _,?_⟩
   ·rw[decide_eq_true (by omega),if_neg (by omega: ¬r+1=0)]
   ·rw[hit];have hd:(Lb.drop (i*t.fn)).length=Lb.length - i*t.fn:=by simp
    have hle:Lb.length - i*t.fn≤t.fn:=by
     have:=jv (m:=Lb.length) (d:=t.fn) (k:=i+1) (by omega) (by omega)
     rw[Nat.add_mul,Nat.one_mul]at this;omega
    rw[List.take_of_length_le (by omega),List.take_of_length_le (by omega)]
  ·rw[if_neg h];have h3:i+1<qH Lb.length t.fn:=by omega
   have h4:=(zF (by omega)).1 h3;refine⟨i*t.fn,(i+1)*t.fn,?_,Nat.mul_le_mul_right _ (by omega),by omega,?_⟩
   ·rw[decide_eq_false (by omega)]
   ·rw[hit,Nat.add_mul,Nat.one_mul,Nat.add_sub_cancel_left]
theorem qc6 {t:TreeV}{total:Nat}(he:t.err total=0)(kz z1 z2:List Int){L0:List (List Int)}(h0:L0.length=lvs total t.ln)(h1: ∀z∈L0,z.length≤64):t.topAt kz z1 z2 L0 ((t.rowsOf total).length - 1):=by
 have hv:=QU he;have hL0:L0≠[]:=List.length_pos_iff.1 (by rw[h0];unfold lvs;omega);have hR:=qA he;have hlen:=hR.len;have key: ∀q,1≤q→q<(t.rowsOf total).length→(t.rootZ q (t.lvlZ kz z1 z2 L0 (q - 1)).length=true↔nth (t.rowsOf total) q=1):=fun q h2 h3=>by
  have hf:=Qa hv kz z1 z2 hL0 h1 (q - 1);have hu:=(YB hv h2 hf.1).2;have hb:=QP he kz z1 z2 h0 h1 (q - 1) (by omega);have hn:=hR.next (q - 1) (by omega);rw[Nat.sub_add_cancel h2]at hn;rw[hu,hb,hn]
 refine⟨by omega,(key _ (by omega) (by omega)).2 hR.last,fun q h2 h3=>?_⟩;have:=(key q h2 (by omega))
 cases hrt:t.rootZ q (t.lvlZ kz z1 z2 L0 (q - 1)).length with
 | false=>rfl
 | true=>exact absurd (this.1 hrt) (hR.more q h2 (by omega))
end Go.Proofs.YtahenngmaoellaaGreat
