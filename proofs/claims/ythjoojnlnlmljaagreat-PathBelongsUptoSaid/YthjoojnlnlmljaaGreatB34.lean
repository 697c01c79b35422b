/- A block's numbers lie in it: laid anew they give the block. Plain. No condition. -/
import Derived.Test.YthjoojnlnlmljaaGreatP00
import Derived.Test.YthjoojnlnlmljaaGreatP01
import Derived.Test.YthjoojnlnlmljaaGreatB31
import Derived.Test.YthjoojnlnlmljaaGreatB33
import Derived.Test.YthjoojnlnlmljaaGreatB04
import Derived.Test.YthjoojnlnlmljaaGreatB22
import Derived.Test.YthjoojnlnlmljaaGreatB25
import Derived.Test.YthjoojnlnlmljaaGreatB24
import Derived.Maps.AppendAt
set_option linter.all false
set_option maxRecDepth 100000
set_option maxHeartbeats 8000000
namespace Go.Proofs.YthjoojnlnlmljaaGreat
open Go.ChangeShapes Go.WideShapes Go.ChangeAt Go.RowKit Go.Joins Go.Shelf Go.Maps
open Go.Lib (hid)
theorem qgX {zs:List Int}(G: ∀z∈zs,0≤z∧z≤255)(p:Nat): ∀n,p+n≤zs.length→ ∀j,byt (qO zs p n).toNat j=if j<n then qp zs (p+j) else 0
  | 0,_,j=>by simp[qO,byt,z7]
  | n+1,h,j=>by
    have o:=qgX G p n (by omega) j;have U:=Qy (zs:=zs) G (at_:=p) n (by omega);obtain⟨-,z1,z2⟩:=qZ G (show p+n<zs.length by omega);obtain⟨z,q⟩: ∃z:Nat,qp zs (p+n)=z:=⟨(qp zs (p+n)).toNat,by omega⟩;obtain⟨a,D⟩: ∃a:Nat,qO zs p n=a:=⟨(qO zs p n).toNat,by omega⟩;have r:(2:Int)^(8*n)=((256^n:Nat):Int):=by
      rw[Int.pow_mul];norm_cast
    have I:a<256^n:=by
      have:=U.2;rw[D,r]at this;exact_mod_cast this
    have e:(qO zs p (n+1)).toNat=a+z*256^n:=by
      rw[qO,D,q,r,←Int.natCast_mul,←Int.natCast_add,Int.toNat_natCast]
    rw[D,Int.toNat_natCast]at o;rw[e];unfold byt z7 at o⊢;by_cases J:j<n
    · rw[if_pos J]at o
      rw[if_pos (by omega),←o];have S:256^n=256^j*(256*256^(n - j - 1)):=by
        rw[←Nat.pow_succ',←Nat.pow_add];congr 1;omega
      rw[S,show z*(256^j*(256*256^(n - j - 1)))=256^j*(256*(z*256^(n - j - 1))) by
        rw[Nat.mul_left_comm z,Nat.mul_left_comm z],Nat.add_mul_div_left _ _ (Nat.pow_pos (by omega)),Nat.add_mul_mod_self_left]
    · by_cases O:j=n
      · subst O
        rw[if_pos (by omega),Nat.add_mul_div_right _ _ (Nat.pow_pos (by omega)),Nat.div_eq_of_lt I,Nat.zero_add,q];have:z%256=z:=Nat.mod_eq_of_lt (by omega)
        rw[this]
      · rw[if_neg (by omega)]
        have:a+z*256^n<256^j:=by
          have X:256^(n+1)≤256^j:=Nat.pow_le_pow_right (by omega) (by omega);have Y:z*256^n≤255*256^n:=Nat.mul_le_mul_right _ (by omega);have V:256^(n+1)=256*256^n:=Nat.pow_succ';omega
        rw[Nat.div_eq_of_lt this];rfl
theorem qcV {x:List Int}{j:Nat}(o:j<x.length):qp x j=if j<(Ys x).length then qp (Ys x) j else 0:=by
  have q:(Ys x).length=Qp x x.length:=by unfold Ys;have:=Z6 x x.length;simp;omega
  rw[q];by_cases h:j<Qp x x.length
  · rw[if_pos h];unfold Ys qp;simp[Lg,List.getElem?_take,h]
  · rw[if_neg h];exact qbx x _ _ (by omega) o
theorem QA (big q:Bool)(v:Nat→Nat){k:Nat}(I:k+1≤9)(i:Nat):
    qp (QD big q v (k+1)) i=if ¬(k+1=7∧q=true)∧atB big (k+1)≤i∧i<atB big (k+1)+szB big (k+1) then byt (v (k+1)) (i - atB big (k+1)) else qp (QD big q v k) i:=by
  have D:=yd big false (k+1) (by omega) (by omega);have e:szE big false (k+1)=szB big (k+1):=by simp[szE]
  rw[e]at D;have G:32≤mB big:=by cases big<;>decide
  rw[QD];by_cases h:k+1=7∧q=true
  · rw[if_pos h,if_neg (fun o=>o.1 h)]
  · rw[if_neg h,YP (by rw[qG,QW big q v k (by omega)];omega),qG]
    by_cases o:atB big (k+1)≤i∧i<atB big (k+1)+szB big (k+1)
    · rw[if_pos o,if_pos ⟨h,o⟩]
      simp[qp,qD,Lg,show i - atB big (k+1)<szB big (k+1) by omega]
    · rw[if_neg o,if_neg (fun r=>o r.2)]
theorem jY (big o:Bool)(v:Nat→Nat)(i:Nat):qp (QD big o v 0) i=0:=by
  unfold QD qp;simp only[Lg,List.getElem?_replicate];split<;>rfl
theorem qiN {big ext:Bool}{zs:List Int}(J: ∀z∈zs,0≤z∧z≤255)(I:zs.length=mB big)(X:big=true→ ∀i,18≤i→i<32→qp zs i=0)(V:ext=true→xoZ big ext zs≠0){i:Nat}(hi:i<2*sB big):
    qp (QD big (YL big ext zs 7==0) (YL big ext zs) 9) i=qp zs i:=by
  have Y: ∀f,1≤f→f≤9→ ¬(f=7∧ext=false)→YL big ext zs f=(qO zs (atB big f) (szE big ext f)).toNat:=fun f r D G=>by
    have:=J2 (big:=big) (ext:=ext) J I r D G;omega
  have o: ∀f j,1≤f→f≤9→ ¬(f=7∧ext=false)→byt (YL big ext zs f) j=if j<szE big ext f then qp zs (atB big f+j) else 0:=fun f j r D G=>by
    rw[Y f r D G];have O:=yd big ext f r D;exact qgX J _ _ (by rw[I];cases big;(have:=O.2.2.2 rfl;show _≤32;omega);(show _≤64;omega)) j
  have U:(YL big ext zs 7==0)= !ext:=by
    cases ext
    · rfl
    · have Z:((YL big true zs 7:Nat):Int)=xoZ big true zs:=by
        rw[J2 J I (by omega) (by omega) (by simp)];cases big<;>rfl
      have:=V rfl
      rw[Bool.not_true,beq_eq_false_iff_ne];omega
  rw[U];rw[QA _ _ _ (k:=8) (by omega),QA _ _ _ (k:=7) (by omega),QA _ _ _ (k:=6) (by omega),QA _ _ _ (k:=5) (by omega),QA _ _ _ (k:=4) (by omega),QA _ _ _ (k:=3) (by omega),QA _ _ _ (k:=2) (by omega),QA _ _ _ (k:=1) (by omega),QA _ _ _ (k:=0) (by omega),jY];rw[o 9 _ (by omega) (by omega) (by omega),o 8 _ (by omega) (by omega) (by omega),o 6 _ (by omega) (by omega) (by omega),o 5 _ (by omega) (by omega) (by omega),o 4 _ (by omega) (by omega) (by omega),o 3 _ (by omega) (by omega) (by omega),o 2 _ (by omega) (by omega) (by omega),o 1 _ (by omega) (by omega) (by omega)]
  cases big
  · have hi:i<16:=hi
    rcases(show i=0∨i=1∨i=2∨i=3∨i=4∨i=5∨i=6∨i=7∨i=8∨i=9∨i=10∨i=11∨i=12∨i=13∨i=14∨i=15 by omega)with rfl|rfl|rfl|rfl|rfl|rfl|rfl|rfl|rfl|rfl|rfl|rfl|rfl|rfl|rfl|rfl<;>cases ext<;>simp[atB,szB,szE]<;>(rw[o 7 _ (by omega) (by omega) (by simp)];simp[atB,szB,szE])
  · have hi:i<32:=hi
    by_cases S:18≤i
    · rw[X rfl i S hi]
      have q: ∀f,1≤f→f≤9→ ¬(atB true f≤i∧i<atB true f+szB true f):=fun f r D G=>by
        have O:=yd true false f r D;rw[show szE true false f=szB true f by simp[szE]]at O;omega
      rw[if_neg (fun h=>q 9 (by omega) (by omega) h.2),if_neg (fun h=>q 8 (by omega) (by omega) h.2),if_neg (fun h=>q 7 (by omega) (by omega) h.2),if_neg (fun h=>q 6 (by omega) (by omega) h.2),if_neg (fun h=>q 5 (by omega) (by omega) h.2),if_neg (fun h=>q 4 (by omega) (by omega) h.2),if_neg (fun h=>q 3 (by omega) (by omega) h.2),if_neg (fun h=>q 2 (by omega) (by omega) h.2),if_neg (fun h=>q 1 (by omega) (by omega) h.2)]
    · rcases(show i=0∨i=1∨i=2∨i=3∨i=4∨i=5∨i=6∨i=7∨i=8∨i=9∨i=10∨i=11∨i=12∨i=13∨i=14∨i=15∨i=16∨i=17 by omega)with rfl|rfl|rfl|rfl|rfl|rfl|rfl|rfl|rfl|rfl|rfl|rfl|rfl|rfl|rfl|rfl|rfl|rfl<;>cases ext<;>simp[atB,szB,szE]<;>(rw[o 7 _ (by omega) (by omega) (by simp)];simp[atB,szB,szE])
theorem qiX {big ext:Bool}{zs:List Int}(hz: ∀z∈zs,0≤z∧z≤255)(h:okD big ext zs):QT big (YL big ext zs) (Y3 big zs) (zp big zs)=zs:=by
  obtain⟨V,hm,Z, -⟩:=h;have hM:mB big=4*sB big:=by cases big<;>rfl
  have G: ∀x:List Int,(Ys x).length≤x.length:=fun x=>by unfold Ys;rw[List.length_take];omega
  have e1:((zs.drop (2*sB big)).take (sB big)).length=sB big:=by simp;omega
  have e2:((zs.drop (3*sB big)).take (sB big)).length=sB big:=by simp;omega
  have l1:(Y3 big zs).length≤sB big:=Nat.le_trans (G _) (by omega);have l2:(zp big zs).length≤sB big:=Nat.le_trans (G _) (by omega);have hF:=QW big (YL big ext zs 7==0) (YL big ext zs) 9 (by omega);have J:=yv (big:=big) (v:=YL big ext zs) l1 l2;have D: ∀i,2*sB big≤i→qp (QD big (YL big ext zs 7==0) (YL big ext zs) 9) i=0:=fun i hi=>by
    have S:16≤2*sB big∧(big=true→18≤2*sB big):=by cases big<;>decide
    have q: ∀f,1≤f→f≤9→ ¬(atB big f≤i∧i<atB big f+szB big f):=fun f I r X=>by
      have Y:=yd big false f I r;rw[show szE big false f=szB big f by simp[szE]]at Y
      cases big
      · have:=Y.2.2.2 rfl;omega
      · have:=S.2 rfl;omega
    rw[QA _ _ _ (k:=8) (by omega),QA _ _ _ (k:=7) (by omega),QA _ _ _ (k:=6) (by omega),QA _ _ _ (k:=5) (by omega),QA _ _ _ (k:=4) (by omega),QA _ _ _ (k:=3) (by omega),QA _ _ _ (k:=2) (by omega),QA _ _ _ (k:=1) (by omega),QA _ _ _ (k:=0) (by omega),jY];rw[if_neg (fun h=>q 9 (by omega) (by omega) h.2),if_neg (fun h=>q 8 (by omega) (by omega) h.2),if_neg (fun h=>q 7 (by omega) (by omega) h.2),if_neg (fun h=>q 6 (by omega) (by omega) h.2),if_neg (fun h=>q 5 (by omega) (by omega) h.2),if_neg (fun h=>q 4 (by omega) (by omega) h.2),if_neg (fun h=>q 3 (by omega) (by omega) h.2),if_neg (fun h=>q 2 (by omega) (by omega) h.2),if_neg (fun h=>q 1 (by omega) (by omega) h.2)]
  have key: ∀i,i<mB big→qp (QT big (YL big ext zs) (Y3 big zs) (zp big zs)) i=qp zs i:=fun i hi=>by
    have aa:(Qn (QD big (YL big ext zs 7==0) (YL big ext zs) 9) (2*sB big) (Y3 big zs)).length=mB big:=by rw[Qq (by omega),hF]
    unfold QT;rw[YP (by omega),YP (by omega)];by_cases X:3*sB big≤i
    · have O:i - 3*sB big<((zs.drop (3*sB big)).take (sB big)).length:=by omega
      have o:=qcV O;rw[qbR (by omega),show 3*sB big+(i - 3*sB big)=i by omega]at o;by_cases U:i<3*sB big+(zp big zs).length
      · rw[if_pos ⟨X,U⟩];rw[if_pos (by show _<(zp big zs).length;omega)]at o;exact o.symm
      · rw[if_neg (by omega),if_neg (by omega),D i (by omega)];rw[if_neg (by show ¬_<(zp big zs).length;omega)]at o;exact o.symm
    · rw[if_neg (by omega)]
      by_cases r:2*sB big≤i
      · have O:i - 2*sB big<((zs.drop (2*sB big)).take (sB big)).length:=by omega
        have o:=qcV O;rw[qbR (by omega),show 2*sB big+(i - 2*sB big)=i by omega]at o;by_cases U:i<2*sB big+(Y3 big zs).length
        · rw[if_pos ⟨r,U⟩];rw[if_pos (by show _<(Y3 big zs).length;omega)]at o;exact o.symm
        · rw[if_neg (by omega),D i (by omega)];rw[if_neg (by show ¬_<(Y3 big zs).length;omega)]at o;exact o.symm
      · rw[if_neg (by omega)];exact qiN hz V hm Z (by omega)
  apply List.ext_getElem (by rw[J,V])
  intro i I r;have:=key i (by omega)
  simpa [qp,Lg,I,r] using this
theorem J5 {big:Bool}{v:Nat→Nat}{z1 z2:List Int}(o:z1.length≤sB big)(r:z2.length≤sB big){i:Nat}(hi:i<2*sB big):qp (QT big v z1 z2) i=qp (QD big (v 7==0) v 9) i:=by
 have e:=QW big (v 7==0) v 9 (by omega);have q:4*sB big=mB big:=by cases big<;>decide
 unfold QT;rw[YP (by rw[Qq (by omega)];omega),if_neg (by omega),YP (by omega),if_neg (by omega)]
theorem qS {big o:Bool}{v:Nat→Nat}(k:Nat){i:Nat}(q:k+1≤9)(h: ¬(atB big (k+1)≤i∧i<atB big (k+1)+szB big (k+1))):qp (QD big o v (k+1)) i=qp (QD big o v k) i:=by
 rw[QA big o v q i,if_neg (fun r=>h r.2)]
theorem J0 {big o:Bool}{v:Nat→Nat}(k:Nat){i:Nat}(q:k+1≤9)(D:k+1≠7)(h:atB big (k+1)=i):qp (QD big o v (k+1)) i=byt (v (k+1)) 0:=by
 have G:1≤szB big (k+1):=by
  have:=yd big false (k+1) (by omega) q
  simpa [szE] using this.1
 rw[QA big o v q i,if_pos ⟨fun r=>D r.1,by omega,by omega⟩,←h,Nat.sub_self]
theorem j7 {x:Nat}(h:x≤255):byt x 0=(x:Int):=by
 have:=Zm x 0
 simp at this
 omega
theorem qgN {big:Bool}{v:Nat→Nat}{z1 z2:List Int}(I:ParOk big v)(q:z1.length≤sB big)(r:z2.length≤sB big):okD big false (QT big v z1 z2)∧qp (QT big v z1 z2) 1=(v 2:Nat):=by
 have hs:8≤sB big:=by cases big<;>decide
 have hm:mB big≤64:=by cases big<;>decide
 obtain⟨S,O,p3,Y, -,p6,X⟩:=I.p;have g0:qp (QT big v z1 z2) 0=(v 1:Nat):=by
  rw[J5 q r (by omega),qS 8 (by omega) (by cases big<;>decide),qS 7 (by omega) (by cases big<;>decide),qS 6 (by omega) (by cases big<;>decide),qS 5 (by omega) (by cases big<;>decide),qS 4 (by omega) (by cases big<;>decide),
   qS 3 (by omega) (by cases big<;>decide),qS 2 (by omega) (by cases big<;>decide),qS 1 (by omega) (by cases big<;>decide),J0 0 (by omega) (by omega) (by cases big<;>rfl)]
  exact j7 (x:=v 1) (by omega)
 have D:qp (QT big v z1 z2) 1=(v 2:Nat):=by
  rw[J5 q r (by omega),qS 8 (by omega) (by cases big<;>decide),qS 7 (by omega) (by cases big<;>decide),qS 6 (by omega) (by cases big<;>decide),qS 5 (by omega) (by cases big<;>decide),qS 4 (by omega) (by cases big<;>decide),
   qS 3 (by omega) (by cases big<;>decide),qS 2 (by omega) (by cases big<;>decide),J0 1 (by omega) (by omega) (by cases big<;>rfl)]
  exact j7 (x:=v 2) (by omega)
 have g3:qp (QT big v z1 z2) 3=(v 4:Nat):=by
  rw[J5 q r (by omega),qS 8 (by omega) (by cases big<;>decide),qS 7 (by omega) (by cases big<;>decide),qS 6 (by omega) (by cases big<;>decide),qS 5 (by omega) (by cases big<;>decide),qS 4 (by omega) (by cases big<;>decide),
   J0 3 (by omega) (by omega) (by cases big<;>rfl)]
  exact j7 (x:=v 4) (by omega)
 have J:atB big 9<2*sB big:=by cases big<;>decide
 have Z:qp (QT big v z1 z2) (atB big 9)=(v 9:Nat):=by
  rw[J5 q r J,J0 8 (by omega) (by omega) rfl];exact j7 (x:=v 9) (by omega)
 refine⟨⟨yv q r,fun V i i1 U=>?_,fun h=>(by cases h),?_⟩,D⟩
 ·subst V;have G:i<2*sB true:=U;have o: ∀k,k<9→ ¬(atB true (k+1)≤i∧i<atB true (k+1)+szB true (k+1)):=fun k hk h=>by
   have:atB true (k+1)+szB true (k+1)≤18:=by
    rcases(show k=0∨k=1∨k=2∨k=3∨k=4∨k=5∨k=6∨k=7∨k=8 by omega)with rfl|rfl|rfl|rfl|rfl|rfl|rfl|rfl|rfl<;>decide
   omega
  rw[J5 q r G,qS 8 (by omega) (o 8 (by omega)),qS 7 (by omega) (o 7 (by omega)),qS 6 (by omega) (o 6 (by omega)),qS 5 (by omega) (o 5 (by omega)),qS 4 (by omega) (o 4 (by omega)),qS 3 (by omega) (o 3 (by omega)),
   qS 2 (by omega) (o 2 (by omega)),qS 1 (by omega) (o 1 (by omega)),qS 0 (by omega) (o 0 (by omega)),jY]
 ·rw[g0,D,g3,Z];exact⟨S,O,fun _=>Y.1,X⟩
end Go.Proofs.YthjoojnlnlmljaaGreat
namespace Go.Proofs.YthjoojnlnlmljaaGreat
open Go.ChangeShapes Go.WideShapes Go.ChangeAt Go.RowKit Go.Joins Go.Shelf Go.Maps
open Go.Lib (hid)
attribute [local go_sem] Oper.semAt_some
theorem qht {zs:List Int}{i p n:Nat}(h:i<n):qp ((zs.drop p).take n) i=qp zs (p+i):=by
 unfold qp;simp[Lg,List.getElem?_take,h,List.getElem?_drop]
theorem qay {w w':World}{a:Option Addr}{n c:Nat}{zs:List Int}(h:Hold w (.slice a n c) zs)(r:Below w.heap.size w w'){j:Nat}(o:j<zs.length): ∃b off,a=some ⟨b,off,none⟩∧b<w'.heap.size∧w'.cell? ⟨b,off+j,none⟩=some (.int .u8 (qp zs j))∧0≤qp zs j∧qp zs j≤255:=by
 have q:zs≠[]:=fun e=>by rw[e]at o;simp at o
 rcases h.2 with⟨G, -⟩|⟨S,O,e, -, -,J⟩
 ·exact absurd G q
 ·obtain⟨b,off,rfl,D,I⟩:=J.resolve_left q;simp only[Value.slice.injEq]at e;exact⟨b,off,e.1,Nat.lt_of_lt_of_le D r.size,(r.cell (p:=⟨b,off+j,none⟩) D).trans (I j o),(qZ h.1 o).2⟩
theorem jM (lo n:Nat)(h:lo+n<9223372036854775808)(w:World):
  Calls Tryz.prog 177 #[.int .u64 lo,.int .u64 0,.int .u64 n] w fun e w'=>e= .returned (.tuple #[.int .u64 ((lo+n:Nat):Int),.int .u64 0,.bool false])∧w'=w:=by
 have o:IntKind.u64.wrap ((lo:Int)+n)=(lo:Int)+n:=u64_wrap_id _ (by omega) (by omega);have q: ¬((lo:Int)+n<lo):=by omega
 have r:(lo:Int)≤(lo:Int)+n:=by omega
 rw[Int.natCast_add];clear h;go_enter Tryz.func177,Tryz.ntmps177
 go_wp2
 exact Bp (results_tmp3 (fn:=Tryz.f177) (t:=6) (u:=7) (v:=8) rfl _ _ _) rfl ⟨rfl,rfl⟩
theorem JP {n:Nat}{x:List Int}{j:Nat}(q:j<n)(o:x.length≤n):(QG n x).take (j+1)=(QG n x).take j++[if j<x.length then qp x j else 0]:=by
 have r:=QO o;rw[jF (zs:=QG n x) (by omega)];congr 2
 unfold QG qp;simp only[Lg];by_cases h:j<x.length
 ·rw[if_pos h,List.getElem?_append_left h]
 ·rw[if_neg h,List.getElem?_append_right (by omega),List.getElem?_replicate,if_pos (by omega)];rfl
theorem jL (zs:List Int)(v:Value)(p n:Nat)(w:World)(h:Hold w v zs)(hn:n≤65535)(hp:p≤zs.length)(hm:(zs.length:Int)≤281474976710656):
  Calls Tryz.prog 180 #[v,.int .i64 p,.int .i64 n] w fun e w'=> ∃v',e= .returned v'∧w'.ownsRow w.heap.size 5 1 v' n ((QG n ((zs.drop p).take n)).map qo)∧Below w.heap.size w w':=by
 obtain⟨i0,hi,aa,Y,af⟩:=info_parts Ql;obtain⟨a,ap,rfl,ar,ao⟩:=h.slice;have HH:=hid h;obtain⟨X,V⟩:=Ex ((zs.drop p).take n);have ac:X.length=min n (zs.length - p):=by rw[←V];simp
 have ab: ∀j,j<X.length→qp X j=qp zs (p+j):=fun j hj=>by rw[←V];exact qht (by omega)
 have ae:=QO (n:=n) (zs:=X) (by omega);rw[V];have J:=hid ac;have ak:=hid ab;have ai:=hid ae;clear h V ac ab ae;go_enter Tryz.func180,Tryz.ntmps180
 go_wp2_with fail
 go_loopw [7,8] (fun b i wr=> ∃j:Nat,i= .int .i64 j∧j≤n∧wr.ownsRow w.heap.size 5 1 b j (((QG n X).take j).map qo)∧Below w.heap.size w wr) (fun _ i _=>n - (intOf i).toNat)
 case atStart=>exact⟨0,rfl,Nat.zero_le _,by simpa using Wo w w.heap.size 5 1,Below.refl _ _⟩
 case round=>
  obtain⟨j,rfl,hj,q,S⟩:=hrel;have o:=hid S;have U:=hid q;obtain⟨a1,n1,c1,rfl⟩:=qs q;by_cases aj:j<n
  case neg=>
   obtain rfl:j=n:=by omega
   clear q S;go_wp2
   go_ret
   refine⟨_,rfl,?_,o.out⟩;have:=U.out
   rwa[List.take_of_length_le (by rw[ai.out];exact Nat.le_refl _)]at this
  have Z:=JP (x:=X) aj (by have:=J.out;omega);have I:=hid Z;clear Z q;by_cases al:p+j<zs.length
  case pos=>
   have ad:j<X.length:=by have:=J.out;omega
   have G:=I.out;rw[if_pos ad,ak.out j ad]at G;have HZ:=hid G;obtain⟨bb,aq,rfl,q1,q2,q3,q4⟩:=qay HH.out S al;have ah:(p:Int)+j<zs.length:=by omega
   have ag:0≤(p:Int)+j∧(p:Int)+j<9223372036854775808:=by omega
   obtain⟨an,am⟩:=ag;generalize qp zs (p+j)=z at*;clear S G I;go_wp2_with (at_builtin;refine wpList_append_own _ rfl _ _ 24 rfl w.heap.size 5 i0 (.int .u8 0) 1 1 Tryz.underlying24 hi aa Y af rfl (by decide) _ _ _ rfl (U.out.alloc _) ⟨wr.heap.size,0,none⟩ 1 1 [.int .u8 z] rfl rfl (cell_one_new _ _ _) (by simp[Value.oneCell']) (by unfold maxLen;omega) (by omega) (by simp;have:=o.out.size;omega) ?_;intro v' w6 D r _;have O:Below w.heap.size w w6:=(o.out.alloc o.out.size _).grown r (by simp;have:=o.out.size;omega) (fun k e=>(U.out.lt k e).1))
   refine⟨⟨j+1,rfl,by omega,by rw[HZ.out,List.map_append];exact D,O⟩,by simp[intOf];omega⟩
  have G:=I.out;rw[if_neg (by have:=J.out;omega)]at G;have HZ:=hid G;have ah: ¬((p:Int)+j<zs.length):=by omega
  clear S G I;go_wp2_with (at_builtin;refine wpList_append_own _ rfl _ _ 24 rfl w.heap.size 5 i0 (.int .u8 0) 1 1 Tryz.underlying24 hi aa Y af rfl (by decide) _ _ _ rfl (U.out.alloc _) ⟨wr.heap.size,0,none⟩ 1 1 [.int .u8 0] rfl rfl (cell_one_new _ _ _) (by simp[Value.oneCell']) (by unfold maxLen;omega) (by omega) (by simp;have:=o.out.size;omega) ?_;intro v' w6 D r _;have O:Below w.heap.size w w6:=(o.out.alloc o.out.size _).grown r (by simp;have:=o.out.size;omega) (fun k e=>(U.out.lt k e).1))
  refine⟨⟨j+1,rfl,by omega,by rw[HZ.out,List.map_append];exact D,O⟩,by simp[intOf];omega⟩
theorem qex (big:Bool)(zs:List Int)(v:Value)(w:World)(h:Hold w v zs)(hk:zs.length≤mB big):
  Calls Tryz.prog 175 #[.int .i64 (kB big),v] w fun e w'=> ∃v',e= .returned v'∧w'.ownsRow w.heap.size 5 1 v' (yz (bB big) zs).length ((yz (bB big) zs).map qo)∧Below w.heap.size w w':=by
 obtain⟨i0,hi,ac,aa,ad⟩:=info_parts Ql;obtain⟨a,am,rfl,aq,al⟩:=h.slice;have J:mB big≤bB big∧bB big≤128:=by cases big<;>decide
 obtain⟨n,hn⟩:=Ex (bB big);have O:=hid (fun(W:World)=>zn big W);rw[hn]at O J⊢;have HH:=hid h;have ae:=hid J;by_cases h0:zs.length=0
 case pos=>
  have e:yz n zs=[]:=by unfold yz;rw[if_pos h0]
  rw[e];obtain rfl:zs=[]:=List.eq_nil_of_length_eq_zero h0;clear J h hn hk;go_enter Tryz.func175,Tryz.ntmps175
  go_wp2
  go_ret
  exact⟨_,rfl,Wo _ _ _ _,Below.refl _ _⟩
 have e:yz n zs=QG n zs:=by unfold yz;rw[if_neg h0]
 have Z:=QO (n:=n) (zs:=zs) (by omega);rw[e,Z];have ag:=hid Z;have ai:0<zs.length:=by omega
 have ak:((zs.length:Int)==0)=false:=beq_eq_false_iff_ne.2 (by omega);have aj:(zs.length:Int)≤128:=by omega
 have ap:(n:Int)≤128:=by omega
 have HK:=hid hk;clear h Z e h0 J hn hk;go_enter Tryz.func175,Tryz.ntmps175
 go_wp2_with fail
 go_loopw [5,6] (fun b i wr=> ∃j:Nat,i= .int .i64 j∧j≤n∧wr.ownsRow w.heap.size 5 1 b j (((QG n zs).take j).map qo)∧Below w.heap.size w wr) (fun _ i _=>n - (intOf i).toNat)
 case atStart=>exact⟨0,rfl,Nat.zero_le _,by simpa using Wo w w.heap.size 5 1,Below.refl _ _⟩
 case round=>
  obtain⟨j,rfl,hj,q,V⟩:=hrel;have o:=hid V;have Y:=hid q;obtain⟨a1,n1,c1,rfl⟩:=qs q;by_cases ah:j<n
  case neg=>
   obtain rfl:j=n:=by omega
   clear q V;go_wp2_with fail
   refine(O.out _).mono ?_;rintro e w4 ⟨rfl,G⟩;rw[G];clear G;go_wp2
   go_ret
   refine⟨_,rfl,?_,o.out⟩;have:=Y.out
   rwa[List.take_of_length_le (by rw[ag.out];exact Nat.le_refl _)]at this
  have ab:=JP (x:=zs) ah (by have:=ae.out;have:=HK.out;omega);have S:=hid ab;have an:(j:Int)<n:=by omega
  clear ab q;by_cases X:j<zs.length
  case pos=>
   have I:=S.out;rw[if_pos X]at I;have HZ:=hid I;obtain⟨bb,ao,rfl,q1,q2,q3,q4⟩:=qay HH.out V X;have af:(j:Int)<zs.length:=by omega
   generalize qp zs j=z at*;clear V I S;go_wp2_with fail
   refine(O.out _).mono ?_;rintro e w4 ⟨rfl,G⟩;rw[G];clear G;go_wp2_with (at_builtin;refine wpList_append_own _ rfl _ _ 24 rfl w.heap.size 5 i0 (.int .u8 0) 1 1 Tryz.underlying24 hi ac aa ad rfl (by decide) _ _ _ rfl (Y.out.alloc _) ⟨wr.heap.size,0,none⟩ 1 1 [.int .u8 z] rfl rfl (cell_one_new _ _ _) (by simp[Value.oneCell']) (by unfold maxLen;omega) (by omega) (by simp;have:=o.out.size;omega) ?_;intro v' w6 D r _;have U:Below w.heap.size w w6:=(o.out.alloc o.out.size _).grown r (by simp;have:=o.out.size;omega) (fun k e=>(Y.out.lt k e).1))
   refine⟨⟨j+1,rfl,by omega,by rw[HZ.out,List.map_append];exact D,U⟩,by simp[intOf];omega⟩
  have I:=S.out;rw[if_neg X]at I;have HZ:=hid I;have af: ¬((j:Int)<zs.length):=by omega
  clear V I S;go_wp2_with fail
  refine(O.out _).mono ?_;rintro e w4 ⟨rfl,G⟩;rw[G];clear G;go_wp2_with (at_builtin;refine wpList_append_own _ rfl _ _ 24 rfl w.heap.size 5 i0 (.int .u8 0) 1 1 Tryz.underlying24 hi ac aa ad rfl (by decide) _ _ _ rfl (Y.out.alloc _) ⟨wr.heap.size,0,none⟩ 1 1 [.int .u8 0] rfl rfl (cell_one_new _ _ _) (by simp[Value.oneCell']) (by unfold maxLen;omega) (by omega) (by simp;have:=o.out.size;omega) ?_;intro v' w6 D r _;have U:Below w.heap.size w w6:=(o.out.alloc o.out.size _).grown r (by simp;have:=o.out.size;omega) (fun k e=>(Y.out.lt k e).1))
  refine⟨⟨j+1,rfl,by omega,by rw[HZ.out,List.map_append];exact D,U⟩,by simp[intOf];omega⟩
def qM (h:List Int):List Int:=h++List.replicate 8 0
theorem Qe {N:Nat}(r:N≤64){h:List Int}(q:Words N 8 h):Words 64 16 (qM h):=by
 refine⟨by simp[qM,q.1],fun z o=>?_⟩;rcases List.mem_append.1 o with o|o
 ·have:=q.2 z o
  have D:(2:Int)^N≤2^64:=by exact_mod_cast Nat.pow_le_pow_right (by omega) r
  omega
 ·rw[List.eq_of_mem_replicate o];decide
theorem qbl {h:List Int}(o:h.length=8){j:Nat}(q:j<8):wd (qM h) j=wd h j:=by
 unfold wd qM;simp[Lg,List.getElem?_append_left (show j<h.length by omega)]
def Qz (h b:List Int)(j:Nat):List Int:=h.take j++b.drop j
theorem zO {h b:List Int}{j:Nat}(o:j<h.length)(D:j<b.length):(Qz h b j).set j (wd h j)=Qz h b (j+1):=by
 have G:h.take (j+1)=h.take j++[wd h j]:=by
  rw[List.take_succ_eq_append_getElem o];simp[wd,Lg,o]
 have r:b.drop j=b[j]::b.drop (j+1):=List.drop_eq_getElem_cons D;have q:(h.take j).length=j:=by simp;omega
 unfold Qz;rw[G,r,List.set_append_right _ _ (by omega),q,Nat.sub_self,List.set_cons_zero];simp
theorem Yp {h b:List Int}{j:Nat}(o:j≤h.length)(q:j≤b.length):(Qz h b j).length=b.length:=by simp[Qz];omega
theorem Yz {k:IntKind}{L:List Int}{j:Nat}(o:j<L.length):(qj k L)[j]? =some (.int k (wd L j)):=by
 simp[qj,wd,Lg,o]
theorem Holds8.mono_below' {w w':World}{v:Value}{zs:List Int}{B:Nat}(h:Holds8 w v zs)(q:Below B w w')(o:w.heap.size≤B):Holds8 w' v zs:=qN h (q.mono o)
def Z8:List Int:=List.replicate 8 0
theorem JZ {R h:List Int}(q:R.length=8)(o:h.length=8):Qz R (qM h) 8=qM R:=by
 unfold Qz qM;rw[List.take_of_length_le (by omega),List.drop_append_of_le_length (by omega),List.drop_of_length_le (by omega),List.nil_append]
theorem qbL (h bs:List Int)(hh:Words 64 8 h)(v:Value)(lo:Nat)(ay:(lo:Int)<9223372036854775808)(J node:Bool)(w:World)(hH:Holds8 w v bs)(hz: ∀z∈bs,0≤z∧z≤255)(hl:bs.length=128):
  Calls Tryz.prog 179 #[.int .i64 1,.agg (qj .u64 (qM h)),v,.int .u64 lo,.int .u64 0,.bool J,.bool node] w fun e w'=>e= .returned (.agg (qj .u64 (qM (yJ true h bs (lo:Nat) J node))))∧Below w.heap.size w w':=by
 obtain⟨o,D⟩:=Ex w.heap.size;have ae:=ym 8 16 hz (by rw[hl]);obtain⟨M,hM⟩:=Ex (Q3 8 16 bs);obtain⟨R,hR⟩:=Ex (yJ true h bs (lo:Nat) J node);have ao:Words 64 8 R:=by rw[←hR];exact QX true hh _ _ _ _
 have an:Zl mixBig IVb 12 h M (lo:Nat) 0 J node=R:=by rw[←hR,←hM];rfl
 rw[hR];rw[hM]at ae;have ad:=Qe (by decide) hh;have aq: ∀j,j<8→wd (qM h) j=wd h j:=fun j hj=>qbl hh.1 hj
 have aG:=hid hM;have aC:=hid an;have aM:=hid hl;have aO:=hid ay;have Z:=hid ae;have r:=hid ao;have I:=hid hh;have ab:=hid ad;have az:=hid aq;have aL:=hid hz;have aE:=hid hH;clear hM hR an hl ay ae ao aq ad hz hH hh;go_enter Tryz.func179,Tryz.ntmps179
 go_wp2_with fail
 have aP:(((w.alloc (.cells (qj .u64 (qM h)) 252)).alloc (.cells Ka 252)).alloc (.cells (qj .u64 Z8) 274)).heap.size=o+3:=by simp[D]
 have r0:(((w.alloc (.cells (qj .u64 (qM h)) 252)).alloc (.cells Ka 252)).alloc (.cells (qj .u64 Z8) 274)).heap[o]? =some (.cells (qj .u64 (qM h)) 252 (0,0)):=by
  rw[Bh _ _ _ (by simp[D];omega),Bh _ _ _ (by simp[D]),←D];exact Wn _ _
 have r1:(((w.alloc (.cells (qj .u64 (qM h)) 252)).alloc (.cells Ka 252)).alloc (.cells (qj .u64 Z8) 274)).heap[o+1]? =some (.cells Ka 252 (0,0)):=by
  rw[Bh _ _ _ (by simp[D]),show o+1=(w.alloc (.cells (qj .u64 (qM h)) 252)).heap.size by simp[D]];exact Wn _ _
 have r2:(((w.alloc (.cells (qj .u64 (qM h)) 252)).alloc (.cells Ka 252)).alloc (.cells (qj .u64 Z8) 274)).heap[o+1+1]? =some (.cells (qj .u64 (Qz h Z8 0)) 274 (0,0)):=by
  rw[show o+1+1=((w.alloc (.cells (qj .u64 (qM h)) 252)).alloc (.cells Ka 252)).heap.size by simp[D]];exact Wn _ _
 have am:Below o w (((w.alloc (.cells (qj .u64 (qM h)) 252)).alloc (.cells Ka 252)).alloc (.cells (qj .u64 Z8) 274)):=by rw[←D];exact((Br.alloc Nl _).alloc (by simp) _).alloc (by simp;omega) _
 change Code.wp _ _ _ _ (((w.alloc (.cells (qj .u64 (qM h)) 252)).alloc (.cells Ka 252)).alloc (.cells (qj .u64 Z8) 274))
 generalize (((w.alloc (.cells (qj .u64 (qM h)) 252)).alloc (.cells Ka 252)).alloc (.cells (qj .u64 Z8) 274))=W3 at*;have R0:=hid r0;have R1:=hid r1;have R2:=hid r2;have aj:=hid am;clear r0 r1 r2 am;go_loopw [16] (fun i wr=> ∃j:Nat,i= .int .i64 j∧j≤8∧wr.heap[o+1+1]? =some (.cells (qj .u64 (Qz h Z8 j)) 274 (0,0))∧But (o+1+1) W3 wr) (fun i _=>8 - (intOf i).toNat)
 case atStart=>exact⟨0,rfl,by omega,R2.out,But.refl _ _⟩
 case round=>
  obtain⟨j,rfl,hj,q,G⟩:=hrel;have S:=hid q;have HB:=hid G;have ag:o+3≤wr.heap.size:=by have:=G.size;omega
  by_cases U:j<8
  case pos=>
   have c0:wr.cell? ⟨o,j,none⟩=some (.int .u64 (wd h j)):=by
    rw[qd ((G.block o (by omega) (by omega)).trans R0.out) j,Yz (by rw[ab.out.1];omega),az.out j U]
   have ah:(Qz h Z8 j).length=8:=Yp (by rw[I.out.1];omega) (by show j≤8;omega);have c1:wr.cell? ⟨o+1+1,j,none⟩=some (.int .u64 (wd (Qz h Z8 j) j)):=by rw[qd q j,Yz (by omega)]
   have f1:=frozen_of_row wr (o+1+1) j _ _ q;have O:=heap_setCell_same wr (o+1+1) j _ _ (.int .u64 (wd h j)) q;rw[Qj,zO (by rw[I.out.1];omega) (by show j<8;omega)]at O;have af:=yE I.out U;have ac:=hid O;have aN:(j:Int)<8:=by omega
   generalize wd (Qz h Z8 j) j=zo at c1;generalize wd h j=zj at*;obtain⟨aA,aB⟩:=af;clear O ah q G;go_wp2
   exact⟨⟨j+1,rfl,by omega,ac.out,HB.out.set _ _⟩,by simp[intOf];omega⟩
  obtain rfl:j=8:=by omega
  rw[show Qz h Z8 8=h by unfold Qz;rw[List.take_of_length_le (by rw[I.out.1];omega)];simp[Z8]]at S;have al:=aE.out.mono_below' (aj.out.trans (G.below (by omega) (by omega))) (by omega);have av:=hid al;clear q G al hj U;go_wp2_with fail
  refine(qcu bs v _ av.out aL.out aM.out).mono ?_;rintro e w1 ⟨rfl,X⟩;rw[aG.out];have aI:=X.size;have k0:=qf ((HB.out.block o (by omega) (by omega)).trans R0.out) X;have k1:=qf ((HB.out.block (o+1) (by omega) (by omega)).trans R1.out) X;have k2:=qf S.out X;have ax:Below o w w1:=(aj.out.trans (HB.out.below (by omega) (by omega))).trans (X.mono (by omega));have K0:=hid k0;have K1:=hid k1;have K2:=hid k2;have aw:=hid ax;clear k0 k1 k2 ax X HB S R0 R1 R2 aj av;go_upto_region 8 with((with_reducible show wpList _ _ _ (Oper.mk none (Op.store 252 _ _) _ _ _ _::_) _ _);refine wpList_store_row rfl 252 _ _ rfl w1.heap.size (qj .u64 M) rfl rfl 252 _ (Wn _ _) (by rw[qg,Z.out.1];kernel_rfl) (by rw[qg,Z.out.1];rfl) qy ?_)
  refine qm ?_;intro W hW;obtain⟨bv,ai⟩:=Ex w1.heap.size;have g0:W.heap[o]? =some (.cells (qj .u64 (qM h)) 252 (0,0)):=by rw[hW];exact(setRow_other (w1.alloc _) _ _ _ (by omega)).trans ((Bh _ _ _ (by omega)).trans K0.out)
  have g1:W.heap[o+1]? =some (.cells Ka 252 (0,0)):=by rw[hW];exact(setRow_other (w1.alloc _) _ _ _ (by omega)).trans ((Bh _ _ _ (by omega)).trans K1.out)
  have g2:W.heap[o+1+1]? =some (.cells (qj .u64 h) 274 (0,0)):=by rw[hW];exact(setRow_other (w1.alloc _) _ _ _ (by omega)).trans ((Bh _ _ _ (by omega)).trans K2.out)
  have g3:W.heap[bv]? =some (.cells (qj .u64 M) 252 (0,0)):=by rw[hW,←ai];exact setRow_heap _ _ _ _ _ _ (Wn _ _)
  have ar:Below o w W:=by rw[hW];exact below_setRow (aw.out.alloc (by omega) _) (by omega) _
  rw[ai];have aD:o+3≤bv:=by omega
  clear hW ai K0 K1 K2 aw aI ag;go_wp2_with (first|((with_reducible show wpList _ _ _ (Oper.mk (some 41) _ _ _ _ _::_) _ _);refine wpList_load_row rfl 274 _ rfl (o+1+1) rfl _ _ _ _ g2 Tryz.underlying274 rfl (by rw[qg,I.out.1];kernel_rfl) ?_)|((with_reducible show wpList _ _ _ (Oper.mk (some 42) _ _ _ _ _::_) _ _);refine wpList_load_row rfl 252 _ rfl bv rfl _ _ _ _ g3 Tryz.underlying252 rfl (by rw[qg,Z.out.1];kernel_rfl) ?_))
  refine(qj0 h M I.out Z.out (lo:Nat) 0 J node _).mono ?_;rintro e w2 ⟨rfl,Y⟩;rw[aC.out];have aJ:=Y.size;have aF:=(Ai g3).1;have j0:=qf g0 Y;have j1:=qf g1 Y;have j2:=qf g2 Y;have ap:Below o w w2:=ar.trans (Y.mono (by omega));clear g0 g1 g2 g3 ar Y;go_upto_region 9 with((with_reducible show wpList _ _ _ (Oper.mk none (Op.store 274 _ _) _ _ _ _::_) _ _);refine wpList_store_row rfl 274 _ _ rfl (o+1+1) (qj .u64 R) rfl rfl 274 _ j2 (by rw[qg,r.out.1];kernel_rfl) (by rw[qg,qg,r.out.1,I.out.1]) qy ?_)
  refine qm ?_;intro W7 V;have m0:W7.heap[o]? =some (.cells (qj .u64 (Qz R (qM h) 0)) 252 (0,0)):=by rw[V];exact(setRow_other w2 _ _ _ (by omega)).trans j0
  have m1:W7.heap[o+1]? =some (.cells Ka 252 (0,0)):=by rw[V];exact(setRow_other w2 _ _ _ (by omega)).trans j1
  have m2:W7.heap[o+1+1]? =some (.cells (qj .u64 R) 274 (0,0)):=by rw[V];exact setRow_heap _ _ _ _ _ _ j2
  have au:Below o w W7:=by rw[V];exact below_setRow ap (by omega) _
  have aQ:o+3≤W7.heap.size:=by rw[V,setRow_size];omega
  have M0:=hid m0;have M1:=hid m1;have M2:=hid m2;have aH:=hid au;clear V m0 m1 m2 au j0 j1 j2 ap aJ aF aD;go_wp2_with fail
  go_loopw [19] (fun i wr=> ∃j:Nat,i= .int .i64 j∧j≤8∧wr.heap[o]? =some (.cells (qj .u64 (Qz R (qM h) j)) 252 (0,0))∧But o W7 wr) (fun i _=>8 - (intOf i).toNat)
  case atStart=>exact⟨0,rfl,by omega,M0.out,But.refl _ _⟩
  case round=>
   obtain⟨j,rfl,hj,q,G⟩:=hrel;have S:=hid q;have HB:=hid G;have ag:o+3≤wr.heap.size:=by have:=G.size;omega
   have ak:(qM h).length=16:=ab.out.1;by_cases U:j<8
   case pos=>
    have c0:wr.cell? ⟨o+1+1,j,none⟩=some (.int .u64 (wd R j)):=by rw[qd ((G.block (o+1+1) (by omega) (by omega)).trans M2.out) j,Yz (by rw[r.out.1];omega)]
    have ah:(Qz R (qM h) j).length=16:=by rw[Yp (by rw[r.out.1];omega) (by omega),ak]
    have c1:wr.cell? ⟨o,j,none⟩=some (.int .u64 (wd (Qz R (qM h) j) j)):=by rw[qd q j,Yz (by omega)]
    have f1:=frozen_of_row wr o j _ _ q;have O:=heap_setCell_same wr o j _ _ (.int .u64 (wd R j)) q;rw[Qj,zO (by rw[r.out.1];omega) (by omega)]at O;have af:=yE r.out U;have ac:=hid O;have aN:(j:Int)<8:=by omega
    generalize wd (Qz R (qM h) j) j=zo at c1;generalize wd R j=zj at*;obtain⟨aA,aB⟩:=af;clear O ah q G ak;go_wp2
    exact⟨⟨j+1,rfl,by omega,ac.out,HB.out.set _ _⟩,by simp[intOf];omega⟩
   obtain rfl:j=8:=by omega
   rw[JZ r.out.1 I.out.1]at q;have n1:=(G.block (o+1) (by omega) (by omega)).trans M1.out;have aK:Below o w wr:=aH.out.trans (G.below Nl (by omega));have aa:=Qe (by decide) r.out;clear G ak hj U S;go_wp2_with (first|((with_reducible show wpList _ _ _ (Oper.mk (some 57) _ _ _ _ _::_) _ _);refine wpList_load_row rfl 252 _ rfl o rfl _ _ _ _ q Tryz.underlying252 rfl (by rw[qg,aa.1];kernel_rfl) ?_)|((with_reducible show wpList _ _ _ (Oper.mk none (Op.store 252 _ _) _ _ _ _::_) _ _);refine wpList_store_row rfl 252 _ _ rfl (o+1) (qj .u64 (qM R)) rfl rfl 252 _ n1 (by rw[qg,aa.1];kernel_rfl) (by rw[qg,aa.1];rfl) qy ?_))
   exact Bp (results_cell_row rfl _ _ (o+1) 252 _ _ _ rfl (setRow_heap _ _ _ _ _ _ n1) Tryz.underlying252 rfl (by rw[qg,aa.1];kernel_rfl)) rfl ⟨rfl,by rw[D];exact below_setRow aK (by omega) _⟩
theorem qaT (h bs:List Int)(hh:Words 32 8 h)(v:Value)(lo:Nat)(ay:(lo:Int)<9223372036854775808)(J node:Bool)(w:World)(hH:Holds8 w v bs)(hz: ∀z∈bs,0≤z∧z≤255)(hl:bs.length=64):
  Calls Tryz.prog 179 #[.int .i64 2,.agg (qj .u64 (qM h)),v,.int .u64 lo,.int .u64 0,.bool J,.bool node] w fun e w'=>e= .returned (.agg (qj .u64 (qM (yJ false h bs (lo:Nat) J node))))∧Below w.heap.size w w':=by
 obtain⟨o,D⟩:=Ex w.heap.size;have af:=ym 4 16 hz (by rw[hl]);obtain⟨M,hM⟩:=Ex (Q3 4 16 bs);obtain⟨R,hR⟩:=Ex (yJ false h bs (lo:Nat) J node);have ao:Words 32 8 R:=by rw[←hR];exact QX false hh _ _ _ _
 have an:Zl mixSmall IVs 10 h M ((lo:Nat)%4294967296) ((lo:Nat)/4294967296) J node=R:=by rw[←hR,←hM];rfl
 rw[hR];rw[hM]at af;have ae:=Qe (by decide) hh;have aq: ∀j,j<8→wd (qM h) j=wd h j:=fun j hj=>qbl hh.1 hj
 have aH:=hid hM;have aD:=hid an;have aN:=hid hl;have az:=hid ay;have aa:=hid af;have r:=hid ao;have I:=hid hh;have ac:=hid ae;have aA:=hid aq;have aM:=hid hz;have aF:=hid hH;clear hM hR an hl ay af ao aq ae hz hH hh;go_enter Tryz.func179,Tryz.ntmps179
 go_wp2_with fail
 have aQ:(((w.alloc (.cells (qj .u64 (qM h)) 252)).alloc (.cells Ka 252)).alloc (.cells (qj .u32 Z8) 284)).heap.size=o+3:=by simp[D]
 have r0:(((w.alloc (.cells (qj .u64 (qM h)) 252)).alloc (.cells Ka 252)).alloc (.cells (qj .u32 Z8) 284)).heap[o]? =some (.cells (qj .u64 (qM h)) 252 (0,0)):=by
  rw[Bh _ _ _ (by simp[D];omega),Bh _ _ _ (by simp[D]),←D];exact Wn _ _
 have r1:(((w.alloc (.cells (qj .u64 (qM h)) 252)).alloc (.cells Ka 252)).alloc (.cells (qj .u32 Z8) 284)).heap[o+1]? =some (.cells Ka 252 (0,0)):=by
  rw[Bh _ _ _ (by simp[D]),show o+1=(w.alloc (.cells (qj .u64 (qM h)) 252)).heap.size by simp[D]];exact Wn _ _
 have r2:(((w.alloc (.cells (qj .u64 (qM h)) 252)).alloc (.cells Ka 252)).alloc (.cells (qj .u32 Z8) 284)).heap[o+1+1]? =some (.cells (qj .u32 (Qz h Z8 0)) 284 (0,0)):=by
  rw[show o+1+1=((w.alloc (.cells (qj .u64 (qM h)) 252)).alloc (.cells Ka 252)).heap.size by simp[D]];exact Wn _ _
 have am:Below o w (((w.alloc (.cells (qj .u64 (qM h)) 252)).alloc (.cells Ka 252)).alloc (.cells (qj .u32 Z8) 284)):=by rw[←D];exact((Br.alloc Nl _).alloc (by simp) _).alloc (by simp;omega) _
 change Code.wp _ _ _ _ (((w.alloc (.cells (qj .u64 (qM h)) 252)).alloc (.cells Ka 252)).alloc (.cells (qj .u32 Z8) 284))
 generalize (((w.alloc (.cells (qj .u64 (qM h)) 252)).alloc (.cells Ka 252)).alloc (.cells (qj .u32 Z8) 284))=W3 at*;have R0:=hid r0;have R1:=hid r1;have R2:=hid r2;have aj:=hid am;clear r0 r1 r2 am;go_loopw [21] (fun i wr=> ∃j:Nat,i= .int .i64 j∧j≤8∧wr.heap[o+1+1]? =some (.cells (qj .u32 (Qz h Z8 j)) 284 (0,0))∧But (o+1+1) W3 wr) (fun i _=>8 - (intOf i).toNat)
 case atStart=>exact⟨0,rfl,by omega,R2.out,But.refl _ _⟩
 case round=>
  obtain⟨j,rfl,hj,q,G⟩:=hrel;have U:=hid q;have HB:=hid G;have ag:o+3≤wr.heap.size:=by have:=G.size;omega
  by_cases V:j<8
  case pos=>
   have c0:wr.cell? ⟨o,j,none⟩=some (.int .u64 (wd h j)):=by
    rw[qd ((G.block o (by omega) (by omega)).trans R0.out) j,Yz (by rw[ac.out.1];omega),aA.out j V]
   have ah:(Qz h Z8 j).length=8:=Yp (by rw[I.out.1];omega) (by show j≤8;omega);have c1:wr.cell? ⟨o+1+1,j,none⟩=some (.int .u32 (wd (Qz h Z8 j) j)):=by rw[qd q j,Yz (by omega)]
   have f1:=frozen_of_row wr (o+1+1) j _ _ q;have S:=heap_setCell_same wr (o+1+1) j _ _ (.int .u32 (wd h j)) q;rw[Qj,zO (by rw[I.out.1];omega) (by show j<8;omega)]at S;have O:=yE I.out V;have aP:IntKind.u32.wrap (wd h j)=wd h j:=by rw[IntKind.wrap_u32];exact Int.emod_eq_of_lt O.1 O.2
   have ad:=hid S;have aO:(j:Int)<8:=by omega
   generalize wd (Qz h Z8 j) j=zo at c1;generalize wd h j=zj at*;obtain⟨aB,aC⟩:=O;clear S ah q G;go_wp2
   exact⟨⟨j+1,rfl,by omega,ad.out,HB.out.set _ _⟩,by simp[intOf];omega⟩
  obtain rfl:j=8:=by omega
  rw[show Qz h Z8 8=h by unfold Qz;rw[List.take_of_length_le (by rw[I.out.1];omega)];simp[Z8]]at U;have al:=aF.out.mono_below' (aj.out.trans (G.below (by omega) (by omega))) (by omega);have av:=hid al;clear q G al hj V;go_wp2_with fail
  refine(qcv bs v _ av.out aM.out aN.out).mono ?_;rintro e w1 ⟨rfl,Y⟩;rw[aH.out];have aJ:=Y.size;have k0:=qf ((HB.out.block o (by omega) (by omega)).trans R0.out) Y;have k1:=qf ((HB.out.block (o+1) (by omega) (by omega)).trans R1.out) Y;have k2:=qf U.out Y;have ax:Below o w w1:=(aj.out.trans (HB.out.below (by omega) (by omega))).trans (Y.mono (by omega));have K0:=hid k0;have K1:=hid k1;have K2:=hid k2;have aw:=hid ax;clear k0 k1 k2 ax Y HB U R0 R1 R2 aj av;go_upto_region 20 with((with_reducible show wpList _ _ _ (Oper.mk none (Op.store 298 _ _) _ _ _ _::_) _ _);refine wpList_store_row rfl 298 _ _ rfl w1.heap.size (qj .u32 M) rfl rfl 298 _ (Wn _ _) (by rw[qg,aa.out.1];kernel_rfl) (by rw[qg,aa.out.1];rfl) qy ?_)
  refine qm ?_;intro W hW;obtain⟨bv,ai⟩:=Ex w1.heap.size;have g0:W.heap[o]? =some (.cells (qj .u64 (qM h)) 252 (0,0)):=by rw[hW];exact(setRow_other (w1.alloc _) _ _ _ (by omega)).trans ((Bh _ _ _ (by omega)).trans K0.out)
  have g1:W.heap[o+1]? =some (.cells Ka 252 (0,0)):=by rw[hW];exact(setRow_other (w1.alloc _) _ _ _ (by omega)).trans ((Bh _ _ _ (by omega)).trans K1.out)
  have g2:W.heap[o+1+1]? =some (.cells (qj .u32 h) 284 (0,0)):=by rw[hW];exact(setRow_other (w1.alloc _) _ _ _ (by omega)).trans ((Bh _ _ _ (by omega)).trans K2.out)
  have g3:W.heap[bv]? =some (.cells (qj .u32 M) 298 (0,0)):=by rw[hW,←ai];exact setRow_heap _ _ _ _ _ _ (Wn _ _)
  have ar:Below o w W:=by rw[hW];exact below_setRow (aw.out.alloc (by omega) _) (by omega) _
  rw[ai];have aE:o+3≤bv:=by omega
  clear hW ai K0 K1 K2 aw aJ ag;go_wp2_with (first|((with_reducible show wpList _ _ _ (Oper.mk (some 73) _ _ _ _ _::_) _ _);refine wpList_load_row rfl 284 _ rfl (o+1+1) rfl _ _ _ _ g2 Tryz.underlying284 rfl (by rw[qg,I.out.1];kernel_rfl) ?_)|((with_reducible show wpList _ _ _ (Oper.mk (some 74) _ _ _ _ _::_) _ _);refine wpList_load_row rfl 298 _ rfl bv rfl _ _ _ _ g3 Tryz.underlying298 rfl (by rw[qg,aa.out.1];kernel_rfl) ?_))
  refine(qj1 h M I.out aa.out (lo:Nat) (by omega) (by have:=az.out;omega) J node _).mono ?_;rintro e w2 ⟨rfl,Z⟩;rw[aD.out];have aK:=Z.size;have aG:=(Ai g3).1;have j0:=qf g0 Z;have j1:=qf g1 Z;have j2:=qf g2 Z;have ap:Below o w w2:=ar.trans (Z.mono (by omega));clear g0 g1 g2 g3 ar Z;go_upto_region 21 with((with_reducible show wpList _ _ _ (Oper.mk none (Op.store 284 _ _) _ _ _ _::_) _ _);refine wpList_store_row rfl 284 _ _ rfl (o+1+1) (qj .u32 R) rfl rfl 284 _ j2 (by rw[qg,r.out.1];kernel_rfl) (by rw[qg,qg,r.out.1,I.out.1]) qy ?_)
  refine qm ?_;intro W7 X;have m0:W7.heap[o]? =some (.cells (qj .u64 (Qz R (qM h) 0)) 252 (0,0)):=by rw[X];exact(setRow_other w2 _ _ _ (by omega)).trans j0
  have m1:W7.heap[o+1]? =some (.cells Ka 252 (0,0)):=by rw[X];exact(setRow_other w2 _ _ _ (by omega)).trans j1
  have m2:W7.heap[o+1+1]? =some (.cells (qj .u32 R) 284 (0,0)):=by rw[X];exact setRow_heap _ _ _ _ _ _ j2
  have au:Below o w W7:=by rw[X];exact below_setRow ap (by omega) _
  have aR:o+3≤W7.heap.size:=by rw[X,setRow_size];omega
  have M0:=hid m0;have M1:=hid m1;have M2:=hid m2;have aI:=hid au;clear X m0 m1 m2 au j0 j1 j2 ap aK aG aE;go_wp2_with fail
  go_loopw [24] (fun i wr=> ∃j:Nat,i= .int .i64 j∧j≤8∧wr.heap[o]? =some (.cells (qj .u64 (Qz R (qM h) j)) 252 (0,0))∧But o W7 wr) (fun i _=>8 - (intOf i).toNat)
  case atStart=>exact⟨0,rfl,by omega,M0.out,But.refl _ _⟩
  case round=>
   obtain⟨j,rfl,hj,q,G⟩:=hrel;have U:=hid q;have HB:=hid G;have ag:o+3≤wr.heap.size:=by have:=G.size;omega
   have ak:(qM h).length=16:=ac.out.1;by_cases V:j<8
   case pos=>
    have c0:wr.cell? ⟨o+1+1,j,none⟩=some (.int .u32 (wd R j)):=by rw[qd ((G.block (o+1+1) (by omega) (by omega)).trans M2.out) j,Yz (by rw[r.out.1];omega)]
    have ah:(Qz R (qM h) j).length=16:=by rw[Yp (by rw[r.out.1];omega) (by omega),ak]
    have c1:wr.cell? ⟨o,j,none⟩=some (.int .u64 (wd (Qz R (qM h) j) j)):=by rw[qd q j,Yz (by omega)]
    have f1:=frozen_of_row wr o j _ _ q;have S:=heap_setCell_same wr o j _ _ (.int .u64 (wd R j)) q;rw[Qj,zO (by rw[r.out.1];omega) (by omega)]at S;have O:=yE r.out V;have aP:IntKind.u64.wrap (wd R j)=wd R j:=u64_wrap_id _ O.1 (by have:=O.2;simp at this;omega);have ad:=hid S;have aO:(j:Int)<8:=by omega
    generalize wd (Qz R (qM h) j) j=zo at c1;generalize wd R j=zj at*;obtain⟨aB,aC⟩:=O;clear S ah q G ak;go_wp2
    exact⟨⟨j+1,rfl,by omega,ad.out,HB.out.set _ _⟩,by simp[intOf];omega⟩
   obtain rfl:j=8:=by omega
   rw[JZ r.out.1 I.out.1]at q;have n1:=(G.block (o+1) (by omega) (by omega)).trans M1.out;have aL:Below o w wr:=aI.out.trans (G.below Nl (by omega));have ab:=Qe (by decide) r.out;clear G ak hj V U;go_wp2_with (first|((with_reducible show wpList _ _ _ (Oper.mk (some 89) _ _ _ _ _::_) _ _);refine wpList_load_row rfl 252 _ rfl o rfl _ _ _ _ q Tryz.underlying252 rfl (by rw[qg,ab.1];kernel_rfl) ?_)|((with_reducible show wpList _ _ _ (Oper.mk none (Op.store 252 _ _) _ _ _ _::_) _ _);refine wpList_store_row rfl 252 _ _ rfl (o+1) (qj .u64 (qM R)) rfl rfl 252 _ n1 (by rw[qg,ab.1];kernel_rfl) (by rw[qg,ab.1];rfl) qy ?_))
   exact Bp (results_cell_row rfl _ _ (o+1) 252 _ _ _ rfl (setRow_heap _ _ _ _ _ _ n1) Tryz.underlying252 rfl (by rw[qg,ab.1];kernel_rfl)) rfl ⟨rfl,by rw[D];exact below_setRow aL (by omega) _⟩
def rN (kd:Int)(v:Nat→Nat)(sa pe kv:Value)(la:Bool)(mv:Value)(cnt:Int):Array Value:= #[.int .i64 kd,.int .i64 (v 1),.int .i64 (v 2),.int .i64 (v 3),.int .i64 (v 4),.int .u32 (v 5),.int .u64 (v 6),.int .u32 (v 7),.int .i64 (v 8),.int .i64 (v 9),sa,pe,kv,.bool la,.int .u64 0,.int .u64 0,.int .u64 0,.int .u64 0,.int .u64 0,.int .u64 0,.int .u64 0,.int .u64 0,.int .u64 0,.int .u64 0,.int .u64 0,.int .u64 0,.int .u64 0,.int .u64 0,.int .u64 0,.int .u64 0,.bool false,.int .u64 0,.int .u64 0,mv,.int .u64 cnt]
def Yv (big:Bool)(w:World)(np:Nat)(v:Nat→Nat)(sa pe kv:Value)(la:Bool)(mv:Value)(cnt:Int):Prop:=w.heap[np]? =some (.cells (rN (kB big) v sa pe kv la mv cnt) 254 (0,0))
def qhq (v:Nat→Nat)(sa pe:Value):Array Value:= #[.int .i64 (v 1),.int .i64 (v 2),.int .i64 (v 3),.int .i64 (v 4),.int .u32 (v 5),.int .u64 (v 6),.int .u32 (v 7),.int .i64 (v 8),.int .i64 (v 9),sa,pe]
theorem qip (I:Int)(v:Nat→Nat)(o q G:Value)(la:Bool)(J:Value)(D:Int): ∀j,j<(qhq v o q).size→(rN I v o q G la J D)[1+j]? =(qhq v o q)[j]? :=by
 intro j r;have r:j<11:=r;rcases(show j=0∨j=1∨j=2∨j=3∨j=4∨j=5∨j=6∨j=7∨j=8∨j=9∨j=10 by omega)with rfl|rfl|rfl|rfl|rfl|rfl|rfl|rfl|rfl|rfl|rfl<;>rfl
theorem jh {b zs:List Int}{p:Nat}(o: ∀z∈b,0≤z∧z≤255)(q: ∀z∈zs,0≤z∧z≤255): ∀z∈Qn b p zs,0≤z∧z≤255:=by
 intro z h;unfold Qn at h;rcases List.mem_append.1 h with h|h
 ·rcases List.mem_append.1 h with h|h
  ·exact o z (List.mem_of_mem_take h)
  ·exact q z h
 ·exact o z (List.mem_of_mem_drop h)
theorem jv (big o:Bool)(v:Nat→Nat): ∀k,∀z∈QD big o v k,0≤z∧z≤255
 | 0,z,h=>by rw[List.eq_of_mem_replicate h];omega
 | k+1,z,h=>by
  rw[QD]at h;split at h
  ·exact jv big o v k z h
  ·exact jh (jv big o v k) (zg _ _) z h
theorem Zn {big:Bool}{v:Nat→Nat}{z1 z2:List Int}(o: ∀z∈z1,0≤z∧z≤255)(q: ∀z∈z2,0≤z∧z≤255): ∀z∈QT big v z1 z2,0≤z∧z≤255:=
 jh (jh (jv _ _ _ _) o) q
theorem qcw (v:Nat→Nat)(z1 z2:List Int)(sa pe kv mv:Value)(la:Bool)(al:Int)(J:Nat)(w:World)(hN:Yv true w J v sa pe kv la mv al)(hP:ParOk true v)(h1:Hold w sa z1)(h2:Hold w pe z2)(aB:z1.length≤16)(aK:z2.length≤16):
  Calls Tryz.prog 191 #[.pointer (some ⟨J,0,none⟩)] w fun e w'=>e= .returned (.agg (qj .u64 (qM (h0Z true (QT true v z1 z2)))))∧Below w.heap.size w w':=by
 obtain⟨q,aa⟩:=Ex w.heap.size;have a4:J<q:=by rw[←aa];exact(Ai hN).1
 have aM:=fun(W:World) (I:Below q w W)=>jn v z1 z2 sa pe W hP (h1.below (aa▸I)) (h2.below (aa▸I)) aB aK
 have au: ∀z∈QT true v z1 z2,0≤z∧z≤255:=Zn h1.1 h2.1;have aI:=yv (big:=true) (v:=v) aB aK;generalize QT true v z1 z2=U at*;obtain⟨H,ah⟩:=Ex (h0Z true U);have aN:Words 64 8 H:=by rw[←ah];exact Q0 true U
 have aO:yF .u64 IVb 8 U=H:=by rw[←ah];rfl
 rw[ah];have ag:w.heap[J]? =some (.cells (rN 1 v sa pe kv la mv al) 254 (0,0)):=hN;have aR:=hid aM;have aU:=hid au;have aS:=hid aI;have aP:=hid aO;have O:=hid aN;have aG:=hid ag;have a6:w.cell? ⟨J,30,none⟩=some (.bool false):=qd ag 30;have ak:w.cell? ⟨J,0,none⟩=some (.int .i64 1):=qd ag 0;have ae:J<w.heap.size:=by omega
 clear hN ag aM au aI ah aO aN hP h1 h2;go_enter Tryz.func191,Tryz.ntmps191
 go_upto_region 4 with(fail)
 have a9:((w.alloc (.cells Ka 252)).alloc (.cells Ka 252)).heap.size=q+2:=by simp[aa]
 have r0:((w.alloc (.cells Ka 252)).alloc (.cells Ka 252)).heap[q]? =some (.cells Ka 252 (0,0)):=by rw[Bh _ _ _ (by simp[aa]),←aa];exact Wn _ _
 have r1:((w.alloc (.cells Ka 252)).alloc (.cells Ka 252)).heap[q+1]? =some (.cells (qj .u64 (Qz H (qM Z8) 0)) 252 (0,0)):=by rw[show q+1=(w.alloc (.cells Ka 252)).heap.size by simp[aa]];exact Wn _ _
 have aq:Below q w ((w.alloc (.cells Ka 252)).alloc (.cells Ka 252)):=by rw[←aa];exact(Br.alloc Nl _).alloc (by simp) _
 generalize ((w.alloc (.cells Ka 252)).alloc (.cells Ka 252))=Y at*;have ay:Y.heap[J]? =some (.cells (rN 1 v sa pe kv la mv al) 254 (0,0)):=(aq.block J a4).trans aG.out;have R0:=hid r0;have R1:=hid r1;have aj:=hid aq;have af:=hid ay;clear r0 r1 aq ay a6 ak aG ae;refine qI (n:=14) (w0:=Y) (B:=Y.heap.size) [.z 21 J 0,.z 22 J 0,.z 23 J 0,.v 24 (.int .i64 1),.z 25 J 0,.z 26 J 0,.z 27 J 1,.v 28 (.agg (qhq v sa pe)),.p 29 (fun u W=> ∃r,u= .tuple #[r,.int .i64 0]∧W.ownsRow Y.heap.size 5 1 r 64 (U.map qo)),.p 20 (fun u W=> ∃r,u= .tuple #[r,.int .i64 0]∧W.ownsRow Y.heap.size 5 1 r 64 (U.map qo)),.p 30 (fun u W=>W.ownsRow Y.heap.size 5 1 u 64 (U.map qo)),.v 31 (.int .i64 0),.p 4 (fun u W=>W.ownsRow Y.heap.size 5 1 u 64 (U.map qo)),.v 5 (.int .i64 0)] (by exact⟨(fun _ _ _ h I=>by obtain⟨r,e,h⟩:=h;exact⟨r,e,qi h (fun g _ hg=>I.block g hg)⟩),(fun _ _ _ h I=>by obtain⟨r,e,h⟩:=h;exact⟨r,e,qi h (fun g _ hg=>I.block g hg)⟩),(fun _ _ _ h I=>qi h (fun g _ hg=>I.block g hg)),(fun _ _ _ h I=>qi h (fun g _ hg=>I.block g hg)),trivial⟩) Br.drew Nl ?_ ?_
 ·repeat' (with_reducible first|exact qB|refine qw ?_ ?_)
  all_goals try
   intro A x W G S V o D K Z;have a0:=G.2 0 (by decide);conv at a0=>rhs;whnf
   simp only[Q7,yk]at D;clear o G;go_simp
   exact Z _ _ BR rfl
  ·intro A x W G S V o _ K Z;have bk:=gv G o 2 23;clear o G;have g0:=qf af.out S;have c0:W.cell? ⟨J,0,none⟩=some (.int .i64 1):=qd g0 0;go_simp
   exact Z _ _ BR rfl
  ·intro A x W G S V o _ K Z;have aW:=gv G o 6 27;clear o G;have g0:=qf af.out S;refine Qs 171 _ rfl J 1 aW 254 _ (qhq v sa pe) (0,0) _ g0 Tryz.underlying171 rfl (by kernel_rfl) (qip _ _ _ _ _ _ _ _) (Z _ _ Br rfl)
  ·intro A x W G S V o _ K Z;have bm:=gv G o 3 24;have bj:=gv G o 7 28;clear o G;go_simp
   refine(aR.out W (aj.out.trans (S.mono (by omega)))).mono ?_;rintro e w' ⟨⟨r,rfl,ho⟩,I⟩;exact Z _ _ I ⟨r,rfl,ownsRow_le ho V⟩
  ·intro A x W G S V o _ K Z;have aZ:(fun u W=> ∃r,u= .tuple #[r,.int .i64 0]∧W.ownsRow Y.heap.size 5 1 r 64 (U.map qo)) (x 29) W:=o ⟨8,.data⟩ (by simp) rfl _ rfl;have bb:A.tmps.getD 29 undef=x 29:=G.1 29 (by decide);clear o G;go_simp
   exact Z _ _ Br (bb▸aZ)
  ·intro A x W G S V o _ K Z;have ai:(fun u W=> ∃r,u= .tuple #[r,.int .i64 0]∧W.ownsRow Y.heap.size 5 1 r 64 (U.map qo)) (x 20) W:=o ⟨9,.data⟩ (by simp) rfl _ rfl;have ao:A.tmps.getD 20 undef=x 20:=G.1 20 (by decide);clear o G;obtain⟨r,er,hr⟩:=ai;rw[er]at ao;go_simp
   exact Z _ _ Br hr
  ·intro A x W G S V o _ K Z;have ai:(fun u W=> ∃r,u= .tuple #[r,.int .i64 0]∧W.ownsRow Y.heap.size 5 1 r 64 (U.map qo)) (x 20) W:=o ⟨9,.data⟩ (by simp) rfl _ rfl;have ao:A.tmps.getD 20 undef=x 20:=G.1 20 (by decide);clear o G;obtain⟨r,er,hr⟩:=ai;rw[er]at ao;go_simp
   exact Z _ _ BR rfl
  ·intro A x W G S V o _ K Z;have bc:(fun u W=>W.ownsRow Y.heap.size 5 1 u 64 (U.map qo)) (x 30) W:=o ⟨10,.data⟩ (by simp) rfl _ rfl;have a7:A.tmps.getD 30 undef=x 30:=G.1 30 (by decide);clear o G;go_simp
   exact Z _ _ Br (a7▸bc)
 intro x W S V aQ;obtain⟨aE,ax,aw,e4, -⟩:=aQ;change (fun u W=> ∃r,u= .tuple #[r,.int .i64 0]∧W.ownsRow Y.heap.size 5 1 r 64 (U.map qo)) (x 29) W at aE
 change (fun u W=> ∃r,u= .tuple #[r,.int .i64 0]∧W.ownsRow Y.heap.size 5 1 r 64 (U.map qo)) (x 20) W at ax
 change (fun u W=>W.ownsRow Y.heap.size 5 1 u 64 (U.map qo)) (x 30) W at aw
 change (fun u W=>W.ownsRow Y.heap.size 5 1 u 64 (U.map qo)) (x 4) W at e4
 refine qv ?_;simp only[QP,Act.put,Ls];have aC:=yf e4;have ar:Below q w W:=aj.out.trans (S.mono (by omega));have g0:=qf af.out S;have r0:=qf R0.out S;have r1:=qf R1.out S;have ak:W.cell? ⟨J,0,none⟩=some (.int .i64 1):=qd g0 0;have ae:J<W.heap.size:=(Ai g0).1;have aV:q+2≤W.heap.size:=by have:=S.size;omega
 have az:=hid r0;have av:=hid r1;have aA:=hid ar;have aL:=hid aC;clear aE ax aw e4 aC ar g0 r0 r1 S V R0 R1 aj af a9;go_wp2_with fail
 refine(qfJ U _ _ aL.out aU.out aS.out).mono ?_;rintro e w1 ⟨rfl,ad⟩;rw[aP.out];have a5:=ad.size;have k0:=qf az.out ad;have k1:=qf av.out ad;have aJ:Below q w w1:=aA.out.trans (ad.mono (by omega));have K0:=hid k0;have K1:=hid k1;have aH:=hid aJ;clear k0 k1 aJ ad az av aA aL ak ae;go_upto_region 7 with((with_reducible show wpList _ _ _ (Oper.mk none (Op.store 274 _ _) _ _ _ _::_) _ _);refine wpList_store_row rfl 274 _ _ rfl w1.heap.size (qj .u64 H) rfl rfl 274 _ (Wn _ _) (by rw[qg,O.out.1];kernel_rfl) (by rw[qg,O.out.1];rfl) qy ?_)
 refine qm ?_;intro W7 ac;obtain⟨bv,an⟩:=Ex w1.heap.size;have m0:W7.heap[q]? =some (.cells Ka 252 (0,0)):=by rw[ac];exact(setRow_other (w1.alloc _) _ _ _ (by omega)).trans ((Bh _ _ _ (by omega)).trans K0.out)
 have m1:W7.heap[q+1]? =some (.cells (qj .u64 (Qz H (qM Z8) 0)) 252 (0,0)):=by rw[ac];exact(setRow_other (w1.alloc _) _ _ _ (by omega)).trans ((Bh _ _ _ (by omega)).trans K1.out)
 have m2:W7.heap[bv]? =some (.cells (qj .u64 H) 274 (0,0)):=by rw[ac,←an];exact setRow_heap _ _ _ _ _ _ (Wn _ _)
 have aF:Below q w W7:=by rw[ac];exact below_setRow (aH.out.alloc (by omega) _) (by omega) _
 have bi:bv<W7.heap.size:=(Ai m2).1;have bh:q+2≤bv:=by omega
 rw[an];have M0:=hid m0;have M1:=hid m1;have M2:=hid m2;have aY:=hid aF;clear ac an m0 m1 m2 aF K0 K1 aH a5 aV;go_wp2_with fail
 go_loopw [8] (fun i wr=> ∃j:Nat,i= .int .i64 j∧j≤8∧wr.heap[q+1]? =some (.cells (qj .u64 (Qz H (qM Z8) j)) 252 (0,0))∧But (q+1) W7 wr) (fun i _=>8 - (intOf i).toNat)
 case atStart=>exact⟨0,rfl,by omega,M1.out,But.refl _ _⟩
 case round=>
  obtain⟨j,rfl,hj,X,I⟩:=hrel;have aT:=hid X;have HB:=hid I;have bg:bv<wr.heap.size:=by have:=I.size;omega
  have ap:(qM Z8).length=16:=rfl;by_cases aD:j<8
  case pos=>
   have c0:wr.cell? ⟨bv,j,none⟩=some (.int .u64 (wd H j)):=by rw[qd ((I.block bv (by omega) (by omega)).trans M2.out) j,Yz (by rw[O.out.1];omega)]
   have a8:(Qz H (qM Z8) j).length=16:=by rw[Yp (by rw[O.out.1];omega) (by omega),ap]
   have c1:wr.cell? ⟨q+1,j,none⟩=some (.int .u64 (wd (Qz H (qM Z8) j) j)):=by rw[qd X j,Yz (by omega)]
   have f1:=frozen_of_row wr (q+1) j _ _ X;have am:=heap_setCell_same wr (q+1) j _ _ (.int .u64 (wd H j)) X;rw[Qj,zO (by rw[O.out.1];omega) (by omega)]at am;have a3:=yE O.out aD;have aX:=hid am;have bl:(j:Int)<8:=by omega
   generalize wd (Qz H (qM Z8) j) j=zo at c1;generalize wd H j=zj at*;obtain⟨be,bf⟩:=a3;clear am a8 X I ap;go_wp2
   exact⟨⟨j+1,rfl,by omega,aX.out,HB.out.set _ _⟩,by simp[intOf];omega⟩
  obtain rfl:j=8:=by omega
  rw[JZ O.out.1 rfl]at X;have n1:=(I.block q (by omega) (by omega)).trans M0.out;have ba:Below q w wr:=aY.out.trans (I.below (by omega) (by omega));have ab:=Qe (by decide) O.out;have bd:q+1<wr.heap.size:=by omega
  clear I ap hj aD aT;go_wp2_with (first|((with_reducible show wpList _ _ _ (Oper.mk (some 51) _ _ _ _ _::_) _ _);refine wpList_load_row rfl 252 _ rfl (q+1) rfl _ _ _ _ X Tryz.underlying252 rfl (by rw[qg,ab.1];kernel_rfl) ?_)|((with_reducible show wpList _ _ _ (Oper.mk none (Op.store 252 _ _) _ _ _ _::_) _ _);refine wpList_store_row rfl 252 _ _ rfl q (qj .u64 (qM H)) rfl rfl 252 _ n1 (by rw[qg,ab.1];kernel_rfl) (by rw[qg,ab.1];rfl) qy ?_))
  exact Bp (results_cell_row rfl _ _ q 252 _ _ _ rfl (setRow_heap _ _ _ _ _ _ n1) Tryz.underlying252 rfl (by rw[qg,ab.1];kernel_rfl)) rfl ⟨rfl,by rw[aa];exact below_setRow ba Nl _⟩
theorem qbO (v:Nat→Nat)(z1 z2:List Int)(sa pe kv mv:Value)(la:Bool)(am:Int)(J:Nat)(w:World)(hN:Yv false w J v sa pe kv la mv am)(hP:ParOk false v)(h1:Hold w sa z1)(h2:Hold w pe z2)(aC:z1.length≤8)(aL:z2.length≤8):
  Calls Tryz.prog 191 #[.pointer (some ⟨J,0,none⟩)] w fun e w'=>e= .returned (.agg (qj .u64 (qM (h0Z false (QT false v z1 z2)))))∧Below w.heap.size w w':=by
 obtain⟨q,aa⟩:=Ex w.heap.size;have a4:J<q:=by rw[←aa];exact(Ai hN).1
 have aN:=fun(W:World) (I:Below q w W)=>ZW v z1 z2 sa pe W hP (h1.below (aa▸I)) (h2.below (aa▸I)) aC aL
 have av: ∀z∈QT false v z1 z2,0≤z∧z≤255:=Zn h1.1 h2.1;have aJ:=yv (big:=false) (v:=v) aC aL;generalize QT false v z1 z2=U at*;obtain⟨H,ah⟩:=Ex (h0Z false U);have aO:Words 32 8 H:=by rw[←ah];exact Q0 false U
 have aP:yF .u32 IVs 4 U=H:=by rw[←ah];rfl
 rw[ah];have ag:w.heap[J]? =some (.cells (rN 2 v sa pe kv la mv am) 254 (0,0)):=hN;have aS:=hid aN;have aV:=hid av;have aT:=hid aJ;have aQ:=hid aP;have O:=hid aO;have aH:=hid ag;have a6:w.cell? ⟨J,30,none⟩=some (.bool false):=qd ag 30;have ak:w.cell? ⟨J,0,none⟩=some (.int .i64 2):=qd ag 0;have ae:J<w.heap.size:=by omega
 clear hN ag aN av aJ ah aP aO hP h1 h2;go_enter Tryz.func191,Tryz.ntmps191
 go_upto_region 4 with(fail)
 have a9:((w.alloc (.cells Ka 252)).alloc (.cells Ka 252)).heap.size=q+2:=by simp[aa]
 have r0:((w.alloc (.cells Ka 252)).alloc (.cells Ka 252)).heap[q]? =some (.cells Ka 252 (0,0)):=by rw[Bh _ _ _ (by simp[aa]),←aa];exact Wn _ _
 have r1:((w.alloc (.cells Ka 252)).alloc (.cells Ka 252)).heap[q+1]? =some (.cells (qj .u64 (Qz H (qM Z8) 0)) 252 (0,0)):=by rw[show q+1=(w.alloc (.cells Ka 252)).heap.size by simp[aa]];exact Wn _ _
 have ar:Below q w ((w.alloc (.cells Ka 252)).alloc (.cells Ka 252)):=by rw[←aa];exact(Br.alloc Nl _).alloc (by simp) _
 generalize ((w.alloc (.cells Ka 252)).alloc (.cells Ka 252))=Y at*;have az:Y.heap[J]? =some (.cells (rN 2 v sa pe kv la mv am) 254 (0,0)):=(ar.block J a4).trans aH.out;have R0:=hid r0;have R1:=hid r1;have aj:=hid ar;have af:=hid az;clear r0 r1 ar az a6 ak aH ae;refine qI (n:=14) (w0:=Y) (B:=Y.heap.size) [.z 21 J 0,.z 22 J 0,.z 23 J 0,.v 24 (.int .i64 2),.z 25 J 0,.z 26 J 0,.z 27 J 1,.v 28 (.agg (qhq v sa pe)),.p 29 (fun u W=> ∃r,u= .tuple #[r,.int .i64 0]∧W.ownsRow Y.heap.size 5 1 r 32 (U.map qo)),.p 20 (fun u W=> ∃r,u= .tuple #[r,.int .i64 0]∧W.ownsRow Y.heap.size 5 1 r 32 (U.map qo)),.p 30 (fun u W=>W.ownsRow Y.heap.size 5 1 u 32 (U.map qo)),.v 31 (.int .i64 0),.p 4 (fun u W=>W.ownsRow Y.heap.size 5 1 u 32 (U.map qo)),.v 5 (.int .i64 0)] (by exact⟨(fun _ _ _ h I=>by obtain⟨r,e,h⟩:=h;exact⟨r,e,qi h (fun g _ hg=>I.block g hg)⟩),(fun _ _ _ h I=>by obtain⟨r,e,h⟩:=h;exact⟨r,e,qi h (fun g _ hg=>I.block g hg)⟩),(fun _ _ _ h I=>qi h (fun g _ hg=>I.block g hg)),(fun _ _ _ h I=>qi h (fun g _ hg=>I.block g hg)),trivial⟩) Br.drew Nl ?_ ?_
 ·repeat' (with_reducible first|exact qB|refine qw ?_ ?_)
  all_goals try
   intro A x W G S V o D K Z;have a0:=G.2 0 (by decide);conv at a0=>rhs;whnf
   simp only[Q7,yk]at D;clear o G;go_simp
   exact Z _ _ BR rfl
  ·intro A x W G S V o _ K Z;have bk:=gv G o 2 23;clear o G;have g0:=qf af.out S;have c0:W.cell? ⟨J,0,none⟩=some (.int .i64 2):=qd g0 0;go_simp
   exact Z _ _ BR rfl
  ·intro A x W G S V o _ K Z;have aX:=gv G o 6 27;clear o G;have g0:=qf af.out S;refine Qs 171 _ rfl J 1 aX 254 _ (qhq v sa pe) (0,0) _ g0 Tryz.underlying171 rfl (by kernel_rfl) (qip _ _ _ _ _ _ _ _) (Z _ _ Br rfl)
  ·intro A x W G S V o _ K Z;have bn:=gv G o 3 24;have bj:=gv G o 7 28;clear o G;go_simp
   refine(aS.out W (aj.out.trans (S.mono (by omega)))).mono ?_;rintro e w' ⟨⟨r,rfl,ho⟩,I⟩;exact Z _ _ I ⟨r,rfl,ownsRow_le ho V⟩
  ·intro A x W G S V o _ K Z;have a3:(fun u W=> ∃r,u= .tuple #[r,.int .i64 0]∧W.ownsRow Y.heap.size 5 1 r 32 (U.map qo)) (x 29) W:=o ⟨8,.data⟩ (by simp) rfl _ rfl;have bb:A.tmps.getD 29 undef=x 29:=G.1 29 (by decide);clear o G;go_simp
   exact Z _ _ Br (bb▸a3)
  ·intro A x W G S V o _ K Z;have ai:(fun u W=> ∃r,u= .tuple #[r,.int .i64 0]∧W.ownsRow Y.heap.size 5 1 r 32 (U.map qo)) (x 20) W:=o ⟨9,.data⟩ (by simp) rfl _ rfl;have ap:A.tmps.getD 20 undef=x 20:=G.1 20 (by decide);clear o G;obtain⟨r,er,hr⟩:=ai;rw[er]at ap;go_simp
   exact Z _ _ Br hr
  ·intro A x W G S V o _ K Z;have ai:(fun u W=> ∃r,u= .tuple #[r,.int .i64 0]∧W.ownsRow Y.heap.size 5 1 r 32 (U.map qo)) (x 20) W:=o ⟨9,.data⟩ (by simp) rfl _ rfl;have ap:A.tmps.getD 20 undef=x 20:=G.1 20 (by decide);clear o G;obtain⟨r,er,hr⟩:=ai;rw[er]at ap;go_simp
   exact Z _ _ BR rfl
  ·intro A x W G S V o _ K Z;have bc:(fun u W=>W.ownsRow Y.heap.size 5 1 u 32 (U.map qo)) (x 30) W:=o ⟨10,.data⟩ (by simp) rfl _ rfl;have a7:A.tmps.getD 30 undef=x 30:=G.1 30 (by decide);clear o G;go_simp
   exact Z _ _ Br (a7▸bc)
 intro x W S V aR;obtain⟨aF,ay,ax,e4, -⟩:=aR;change (fun u W=> ∃r,u= .tuple #[r,.int .i64 0]∧W.ownsRow Y.heap.size 5 1 r 32 (U.map qo)) (x 29) W at aF
 change (fun u W=> ∃r,u= .tuple #[r,.int .i64 0]∧W.ownsRow Y.heap.size 5 1 r 32 (U.map qo)) (x 20) W at ay
 change (fun u W=>W.ownsRow Y.heap.size 5 1 u 32 (U.map qo)) (x 30) W at ax
 change (fun u W=>W.ownsRow Y.heap.size 5 1 u 32 (U.map qo)) (x 4) W at e4
 refine qv ?_;simp only[QP,Act.put,Ls];have aD:=yf e4;have au:Below q w W:=aj.out.trans (S.mono (by omega));have g0:=qf af.out S;have r0:=qf R0.out S;have r1:=qf R1.out S;have ak:W.cell? ⟨J,0,none⟩=some (.int .i64 2):=qd g0 0;have ae:J<W.heap.size:=(Ai g0).1;have aW:q+2≤W.heap.size:=by have:=S.size;omega
 have aA:=hid r0;have aw:=hid r1;have aB:=hid au;have aM:=hid aD;clear aF ay ax e4 aD au g0 r0 r1 S V R0 R1 aj af a9;go_wp2_with fail
 refine(qfK U _ _ aM.out aV.out aT.out).mono ?_;rintro e w1 ⟨rfl,ad⟩;rw[aQ.out];have a5:=ad.size;have k0:=qf aA.out ad;have k1:=qf aw.out ad;have aK:Below q w w1:=aB.out.trans (ad.mono (by omega));have K0:=hid k0;have K1:=hid k1;have aI:=hid aK;clear k0 k1 aK ad aA aw aB aM ak ae;go_upto_region 13 with((with_reducible show wpList _ _ _ (Oper.mk none (Op.store 284 _ _) _ _ _ _::_) _ _);refine wpList_store_row rfl 284 _ _ rfl w1.heap.size (qj .u32 H) rfl rfl 284 _ (Wn _ _) (by rw[qg,O.out.1];kernel_rfl) (by rw[qg,O.out.1];rfl) qy ?_)
 refine qm ?_;intro W7 ac;obtain⟨bv,ao⟩:=Ex w1.heap.size;have m0:W7.heap[q]? =some (.cells Ka 252 (0,0)):=by rw[ac];exact(setRow_other (w1.alloc _) _ _ _ (by omega)).trans ((Bh _ _ _ (by omega)).trans K0.out)
 have m1:W7.heap[q+1]? =some (.cells (qj .u64 (Qz H (qM Z8) 0)) 252 (0,0)):=by rw[ac];exact(setRow_other (w1.alloc _) _ _ _ (by omega)).trans ((Bh _ _ _ (by omega)).trans K1.out)
 have m2:W7.heap[bv]? =some (.cells (qj .u32 H) 284 (0,0)):=by rw[ac,←ao];exact setRow_heap _ _ _ _ _ _ (Wn _ _)
 have aG:Below q w W7:=by rw[ac];exact below_setRow (aI.out.alloc (by omega) _) (by omega) _
 have bi:bv<W7.heap.size:=(Ai m2).1;have bh:q+2≤bv:=by omega
 rw[ao];have M0:=hid m0;have M1:=hid m1;have M2:=hid m2;have aZ:=hid aG;clear ac ao m0 m1 m2 aG K0 K1 aI a5 aW;go_wp2_with fail
 go_loopw [11] (fun i wr=> ∃j:Nat,i= .int .i64 j∧j≤8∧wr.heap[q+1]? =some (.cells (qj .u64 (Qz H (qM Z8) j)) 252 (0,0))∧But (q+1) W7 wr) (fun i _=>8 - (intOf i).toNat)
 case atStart=>exact⟨0,rfl,by omega,M1.out,But.refl _ _⟩
 case round=>
  obtain⟨j,rfl,hj,X,I⟩:=hrel;have aU:=hid X;have HB:=hid I;have bg:bv<wr.heap.size:=by have:=I.size;omega
  have aq:(qM Z8).length=16:=rfl;by_cases aE:j<8
  case pos=>
   have c0:wr.cell? ⟨bv,j,none⟩=some (.int .u32 (wd H j)):=by rw[qd ((I.block bv (by omega) (by omega)).trans M2.out) j,Yz (by rw[O.out.1];omega)]
   have a8:(Qz H (qM Z8) j).length=16:=by rw[Yp (by rw[O.out.1];omega) (by omega),aq]
   have c1:wr.cell? ⟨q+1,j,none⟩=some (.int .u64 (wd (Qz H (qM Z8) j) j)):=by rw[qd X j,Yz (by omega)]
   have f1:=frozen_of_row wr (q+1) j _ _ X;have an:=heap_setCell_same wr (q+1) j _ _ (.int .u64 (wd H j)) X;rw[Qj,zO (by rw[O.out.1];omega) (by omega)]at an;have al:=yE O.out aE;have bm:IntKind.u64.wrap (wd H j)=wd H j:=u64_wrap_id _ al.1 (by have:=al.2;simp at this;omega);have aY:=hid an;have bl:(j:Int)<8:=by omega
   generalize wd (Qz H (qM Z8) j) j=zo at c1;generalize wd H j=zj at*;obtain⟨be,bf⟩:=al;clear an a8 X I aq;go_wp2
   exact⟨⟨j+1,rfl,by omega,aY.out,HB.out.set _ _⟩,by simp[intOf];omega⟩
  obtain rfl:j=8:=by omega
  rw[JZ O.out.1 rfl]at X;have n1:=(I.block q (by omega) (by omega)).trans M0.out;have ba:Below q w wr:=aZ.out.trans (I.below (by omega) (by omega));have ab:=Qe (by decide) O.out;have bd:q+1<wr.heap.size:=by omega
  clear I aq hj aE aU;go_wp2_with (first|((with_reducible show wpList _ _ _ (Oper.mk (some 67) _ _ _ _ _::_) _ _);refine wpList_load_row rfl 252 _ rfl (q+1) rfl _ _ _ _ X Tryz.underlying252 rfl (by rw[qg,ab.1];kernel_rfl) ?_)|((with_reducible show wpList _ _ _ (Oper.mk none (Op.store 252 _ _) _ _ _ _::_) _ _);refine wpList_store_row rfl 252 _ _ rfl q (qj .u64 (qM H)) rfl rfl 252 _ n1 (by rw[qg,ab.1];kernel_rfl) (by rw[qg,ab.1];rfl) qy ?_))
  exact Bp (results_cell_row rfl _ _ q 252 _ _ _ rfl (setRow_heap _ _ _ _ _ _ n1) Tryz.underlying252 rfl (by rw[qg,ab.1];kernel_rfl)) rfl ⟨rfl,by rw[aa];exact below_setRow ba Nl _⟩
structure TreeOk (t:TreeV)(kz z1 z2:List Int)(w:World):Prop where
 v:t.validE=0
 l:0≤t.l∧t.l≤4294967295
 k:Hold w (.slice t.ka t.kl t.kc) kz
 s:Hold w (.slice t.sa t.sl t.sc) z1
 p:Hold w (.slice t.pa t.pl t.pc) z2
theorem TreeOk.below {t:TreeV}{kz z1 z2:List Int}{w w':World}(h:TreeOk t kz z1 z2 w)(o:Below w.heap.size w w'):TreeOk t kz z1 z2 w':=⟨h.v,h.l,h.k.below o,h.s.below o,h.p.below o⟩
theorem YU {w:World}{a:Option Addr}{n c:Nat}{zs:List Int}(h:Hold w (.slice a n c) zs):zs.length=n:=by
 obtain⟨q,o,e, -, -⟩:=h.slice;simp only[Value.slice.injEq]at e;exact e.2.1.symm
def TreeV.node (t:TreeV)(kz z1 z2:List Int)(row i:Nat)(la rt:Bool)(d:List Int):List Int:=Jm t.big (t.blk z1 z2 row i) (Y6 row kz) la (t.outN rt) d
theorem yY (t:TreeV)(kz z1 z2:List Int)(row i:Nat)(la rt:Bool)(d:List Int): ∀a∈t.node kz z1 z2 row i la rt d,0≤a∧a≤255:=fun a o=>qeJ _ _ _ _ a (List.mem_of_mem_take o)
theorem JR (big:Bool)(q kz ds:List Int)(la:Bool)(o:Int)(I G D:Value)(w:World)(S:Hold w I q)(X:Hold w G kz)(V:Hold w D ds)(O:(ds.length:Int)≤140737488355200)(J:okD big false q)(r:YC q kz=false)(U:1≤o∧o≤(mB big:Nat)):
  Calls Tryz.prog 60 #[.agg (yX (kB big) I G la o D)] w fun e w'=>qck big q kz la o ds w e w':=by
 cases big
 ·exact qgu q kz ds la o I G D w S X V O J r U
 ·exact qhN q kz ds la o I G D w S X V O J r U
theorem TreeOk.okD {t:TreeV}{kz z1 z2:List Int}{w:World}(h:TreeOk t kz z1 z2 w){row at_:Nat}(q:row≤255)(r:at_<281474976710656):
  Go.Proofs.YthjoojnlnlmljaaGreat.okD t.big false (t.blk z1 z2 row at_)∧YC (t.blk z1 z2 row at_) (Y6 row kz)=false∧(∀z∈t.blk z1 z2 row at_,0≤z∧z≤255)∧ ∀rt:Bool,1≤t.outN rt∧t.outN rt≤(mB t.big:Nat):=by
 have o:=qn h.v;have J:=yx h.v;have U:=YU h.s;have O:=YU h.p;have V:=YU h.k;obtain⟨D,G⟩:=qgN (z1:=z1) (z2:=z2) (jC h.v h.l q r) (by omega) (by omega);refine⟨D,?_,Zn h.s.1 h.p.1,fun rt=>?_⟩
 ·have I:qp (t.blk z1 z2 row at_) 1=(t.kl:Int):=G;unfold YC Y6;rw[I];refine decide_eq_false ?_;split
  ·omega
  ·simp
 ·obtain⟨-,d1,d2,X,S, -⟩:=o
  cases rt
  ·show 1≤t.i∧t.i≤_;omega
  ·show 1≤t.d∧t.d≤_;omega
theorem qjy {t:TreeV}{kz z1 z2:List Int}{w:World}(h:TreeOk t kz z1 z2 w){row at_:Nat}(I:row≤255)(J:at_<281474976710656)(la rt:Bool)(ds:List Int)(q D r:Value)(W:World)(b:Nat)
  (U:W.ownsRow b 5 1 D (mB t.big) ((t.blk z1 z2 row at_).map qo)) (Y:W.ownsRow b 5 1 r (Y6 row kz).length ((Y6 row kz).map qo)) (Z:Hold W q ds) (hl:ds.length≤1073741824):
  Calls Tryz.prog 60 #[.agg (yX t.k D r la (t.outN rt) q)] W fun e w'=> ∃u,e= .returned (.tuple #[u,.int .i64 0])∧OwnB W.heap.size w' u (t.node kz z1 z2 row at_ la rt ds)∧Below W.heap.size W w':=by
 obtain⟨O,S,h3,h4⟩:=h.okD I J;have G: ∀z∈Y6 row kz,0≤z∧z≤255:=fun z o=>by
  unfold Y6 at o;split at o
  ·exact h.k.1 z o
  ·cases o
 rw[←Yr h.v];refine(JR t.big _ _ ds la _ D r q W (Qi U h3) (Qi Y G) Z (by omega) O S (h4 rt)).mono ?_;rintro e w' ⟨⟨u,rfl,V⟩,X⟩
 exact⟨u,rfl,⟨yY t kz z1 z2 row at_ la rt ds,V⟩,X⟩
def TreeV.rowZ (t:TreeV)(kz z1 z2:List Int)(row:Nat)(rt:Bool)(L:List (List Int))(m:Nat):List (List Int):=(List.range m).map fun i=>t.node kz z1 z2 row i (decide (i+1=L.length)) rt (qC L i)
theorem zD (t:TreeV)(kz z1 z2:List Int)(row:Nat)(rt:Bool)(L:List (List Int))(m:Nat):t.rowZ kz z1 z2 row rt L (m+1)=t.rowZ kz z1 z2 row rt L m++[t.node kz z1 z2 row m (decide (m+1=L.length)) rt (qC L m)]:=by simp[TreeV.rowZ,List.range_succ]
theorem TreeV.rowZ_length (t:TreeV)(kz z1 z2:List Int)(row:Nat)(rt:Bool)(L:List (List Int))(m:Nat):(t.rowZ kz z1 z2 row rt L m).length=m:=by simp[TreeV.rowZ]
theorem qb8 {n:Nat}(zs:List Int)(q:1≤n):1≤(QC n zs).length∧(QC n zs).length≤zs.length+1:=by
 unfold QC;split
 ·exact⟨Nat.le_refl _,by simp⟩
 ·rename_i h;have o:=List.length_pos_iff.2 h;rw[Qv];have:=Yq (n:=zs.length) q
  have:=ZD (d:=n) (show 1≤zs.length from o)
  omega
theorem qfb {n:Nat}(zs:List Int)(i:Nat):(qC (QC n zs) i).length≤zs.length:=by
 unfold QC;split
 ·cases i<;>simp[qC]
 ·unfold qC zT;rw[Lg,List.getElem?_map]
  cases(List.range (qP zs.length n))[i]? with
  | none=>simp
  | some j=>exact(qak n zs j).length_le
end Go.Proofs.YthjoojnlnlmljaaGreat
namespace Go.Proofs.YthjoojnlnlmljaaGreat
open Go.ChangeShapes Go.WideShapes Go.ChangeAt Go.RowKit Go.Joins Go.Shelf Go.Maps
open Go.Lib (hid)
def TreeV.lvlZ (t:TreeV)(kz z1 z2:List Int)(L0:List (List Int)):Nat→List (List Int)
 | 0=>L0
 | r+1=>t.rowZ kz z1 z2 (r+1) (t.rootZ (r+1) (t.lvlZ kz z1 z2 L0 r).length) (t.upZ (r+1) (t.lvlZ kz z1 z2 L0 r)) (t.upZ (r+1) (t.lvlZ kz z1 z2 L0 r)).length
def TreeV.topAt (t:TreeV)(kz z1 z2:List Int)(L0:List (List Int))(R:Nat):Prop:=1≤R∧t.rootZ R (t.lvlZ kz z1 z2 L0 (R - 1)).length=true∧ ∀q,1≤q→q<R→t.rootZ q (t.lvlZ kz z1 z2 L0 (q - 1)).length=false
theorem qbg {t:TreeV}{kz z1 z2:List Int}{q:List (List Int)}{R S:Nat}(h:t.topAt kz z1 z2 q R)(k:t.topAt kz z1 z2 q S):R=S:=by
 rcases Nat.lt_trichotomy R S with o|o|o
 ·have:=k.2.2 R h.1 o;rw[h.2.1]at this;cases this
 ·exact o
 ·have:=h.2.2 S k.1 o;rw[k.2.1]at this;cases this
theorem qaG {t:TreeV}{row n:Nat}(h:(row:Int)=t.p - 1):t.rootZ row n=true:=decide_eq_true (.inr (.inl h))
theorem zN {t:TreeV}(h:t.validE=0){row n:Nat}(o:t.rootZ row n=false):2≤t.fn∧t.fn<n∧t.fn≤255:=by
 have q:=(qn h).2.2.2.2.2.1;have r: ¬(t.f=0∨(row:Int)=t.p - 1∨(n:Int)≤t.f):=of_decide_eq_false o;unfold TreeV.fn;omega
theorem Zu {t:TreeV}(h:t.validE=0)(row:Nat){L:List (List Int)}(q:L≠[]):1≤(t.upZ row L).length∧(t.upZ row L).length≤L.length:=by
 have o:=List.length_pos_iff.2 q;unfold TreeV.upZ
 cases hr:t.rootZ row L.length with
 | true=>exact⟨Nat.le_refl _,o⟩
 | false=>
  have:=zN h hr
  rw[if_neg (by simp),Qm];exact⟨ZD o,Yq (by omega)⟩
theorem jB (t:TreeV)(row:Nat)(L:List (List Int))(i:Nat):(qC (t.upZ row L) i).length≤L.flatten.length:=by
 unfold TreeV.upZ;split
 ·cases i<;>simp[qC]
 ·unfold qC ZA;rw[Lg,List.getElem?_map]
  cases(List.range (qP L.length t.fn))[i]? with
  | none=>simp
  | some j=>exact YV (qak t.fn L j)
theorem qch (t:TreeV)(kz z1 z2:List Int)(row i:Nat)(la rt:Bool)(d:List Int):(t.node kz z1 z2 row i la rt d).length≤64:=by
 have o:(zU t.big (h0Z t.big (t.blk z1 z2 row i)) (yz (bB t.big) (Y6 row kz)++d) la).length=mB t.big:=Zf _ _ _ _;have q:mB t.big≤64:=by cases t.big<;>decide
 unfold TreeV.node Jm;rw[List.length_take];omega
theorem ZZ (t:TreeV)(kz z1 z2:List Int)(row:Nat)(rt:Bool)(L:List (List Int))(m:Nat): ∀z∈t.rowZ kz z1 z2 row rt L m,z.length≤64:=fun z o=>by
 obtain⟨i, -,rfl⟩:=List.mem_map.1 o;exact qch ..
theorem ze: ∀{L:List (List Int)},(∀z∈L,z.length≤64)→L.flatten.length≤64*L.length
 | [],_=>Nat.le_refl _
 | z::L,h=>by
  have q:=h z (List.mem_cons_self ..);have r:=ze (L:=L) (fun y o=>h y (List.mem_cons_of_mem _ o));simp only[List.flatten_cons,List.length_append,List.length_cons];omega
theorem Qo {t:TreeV}(h:t.validE=0)(kz z1 z2:List Int){o:List (List Int)}(q:o≠[])(D: ∀z∈o,z.length≤64): ∀r,t.lvlZ kz z1 z2 o r≠[]∧(t.lvlZ kz z1 z2 o r).length≤o.length∧ ∀z∈t.lvlZ kz z1 z2 o r,z.length≤64
 | 0=>⟨q,Nat.le_refl _,D⟩
 | r+1=>by
  obtain⟨G,O,J⟩:=Qo h kz z1 z2 q D r;have U:=Zu h (r+1) G;have S:(t.lvlZ kz z1 z2 o (r+1)).length=(t.upZ (r+1) (t.lvlZ kz z1 z2 o r)).length:=TreeV.rowZ_length ..;exact⟨List.length_pos_iff.1 (by omega),by omega,fun z I=>ZZ _ _ _ _ _ _ _ _ z I⟩
end Go.Proofs.YthjoojnlnlmljaaGreat
namespace Go.Proofs.YthjoojnlnlmljaaGreat
open Go.ChangeShapes Go.WideShapes Go.ChangeAt Go.RowKit Go.Joins Go.Shelf Go.Maps
open Go.Lib (hid)
attribute [local go_sem] Oper.semAt_some
theorem ListO.get {B:Nat}{w:World}{v:Value}{L:List (List Int)}(h:ListO B w v L){i:Nat}(hi:i<L.length): ∃g o x,v= .slice (some ⟨g,0,none⟩) L.length o∧g<w.heap.size∧w.cell? ⟨g,i,none⟩=some x∧OwnB B w x (qC L i):=by
 obtain⟨vs,D,G⟩:=h;have O:vs.length=L.length:=by have:=D.1;simpa using this
 rcases D.2 with⟨rfl,U⟩|⟨g,o,q,rfl,J,r,V,X,S,I⟩
 ·omega
 ·refine⟨g,o,vs.getD i undef,rfl,(Ai r).1,?_,G i hi⟩;rw[qd r i];have e:q.toList[i]? =vs[i]? :=by rw[←I,List.getElem?_take,if_pos (by omega)]
  rw[←Array.getElem?_toList,e,Lg,List.getElem?_eq_getElem (by omega)];rfl
structure CallS where
 k:Int
 bs:List Int
 kz:List Int
 la:Bool
 o:Int
 ds:List Int
def CallS.zero:CallS:=⟨0,[],[],false,0,[]⟩
def KeepH (w0:World)(B:Nat)(w:World)(v:Value)(z:List Int):Prop:=OwnB B w v z∨Hold w0 v z∧Below w0.heap.size w0 w
theorem KeepH.hold {w0 w:World}{B:Nat}{v:Value}{z:List Int}(h:KeepH w0 B w v z):Hold w v z:=by
 rcases h with h|⟨h,o⟩
 ·exact h.hold
 ·exact h.below o
theorem KeepH.kb {w0 w w':World}{B b:Nat}{v:Value}{z:List Int}(h:KeepH w0 B w v z)(q:w0.heap.size≤b)(k:KB b w w'):KeepH w0 B w' v z:=by
 rcases h with h|⟨h,o⟩
 ·exact .inl (h.kb k)
 ·exact .inr ⟨h,o.trans (k.below.mono q)⟩
theorem KeepH.le {w0 w:World}{B b:Nat}{v:Value}{z:List Int}(h:KeepH w0 B w v z)(o:b≤B):KeepH w0 b w v z:=by
 rcases h with h|h
 ·exact .inl (h.le o)
 ·exact .inr h
def CallAt (w0:World)(B:Nat)(w:World)(s:CallS)(c:List Value):Prop:=
 ∃a1 n1 c1 a2 n2 c2 a3 n3 c3,c=[.int .i64 s.k,.slice a1 n1 c1,.slice a2 n2 c2,.bool s.la,.int .i64 s.o,.slice a3 n3 c3]∧OwnB B w (.slice a1 n1 c1) s.bs∧KeepH w0 B w (.slice a2 n2 c2) s.kz∧KeepH w0 B w (.slice a3 n3 c3) s.ds
theorem CallAt.kb {w0 w w':World}{B b:Nat}{s:CallS}{c:List Value}(h:CallAt w0 B w s c)(o:w0.heap.size≤b)(k:KB b w w'):CallAt w0 B w' s c:=by
 obtain⟨a1,O,c1,a2,D,c2,r,J,G,e,q,I,S⟩:=h;exact⟨a1,O,c1,a2,D,c2,r,J,G,e,q.kb k,I.kb o k,S.kb o k⟩
theorem CallAt.le {w0 w:World}{B b:Nat}{s:CallS}{c:List Value}(h:CallAt w0 B w s c)(o:b≤B):CallAt w0 b w s c:=by
 obtain⟨a1,O,c1,a2,D,c2,r,J,G,e,q,I,S⟩:=h;exact⟨a1,O,c1,a2,D,c2,r,J,G,e,q.le o,I.le o,S.le o⟩
def CallsO (w0:World)(B:Nat)(w:World)(v:Value)(S:List CallS):Prop:=
 ∃cs:List (List Value),cs.length=S.length∧w.ownsRow B 73 6 v S.length cs.flatten∧ ∀i,i<S.length→CallAt w0 B w (S.getD i .zero) (cs.getD i [])
theorem CallsO.nil (w0:World)(B:Nat)(w:World):CallsO w0 B w (.slice none 0 0) []:=⟨[],rfl,Wo _ _ _ _,fun i hi=>by simp at hi⟩
theorem CallsO.kb {w0 w w':World}{B b:Nat}{v:Value}{S:List CallS}(h:CallsO w0 B w v S)(O:w0.heap.size≤b)(k:KB b w w')(V: ∀g,v.ownBlock=some g→w'.heap[g]? =w.heap[g]?):CallsO w0 B w' v S:=by
 obtain⟨cs,J,r,G⟩:=h;refine⟨cs,J,⟨r.1,?_⟩,fun i hi=>(G i hi).kb O k⟩;rcases r.2 with o|⟨g,D,q,rfl,I,o,U⟩
 ·exact .inl o
 ·exact .inr ⟨g,D,q,rfl,I,by rw[V g rfl];exact o,U⟩
theorem qT {w:World}{B T n s:Nat}{v:Value}{xs:List Value}(q:w.ownsRow B T s v n xs): ∀g,v.ownBlock=some g→g<w.heap.size:=by
 intro g o;rcases q.2 with⟨rfl, -⟩|⟨I,G,D,rfl, -,r, -⟩
 ·cases o
 ·simp only[Value.ownBlock,Option.some.injEq]at o;subst o;exact(Ai r).1
theorem CallsO.below {w0 w w':World}{B:Nat}{v:Value}{S:List CallS}(h:CallsO w0 B w v S)(r:w0.heap.size≤w.heap.size)(k:Below w.heap.size w w'):CallsO w0 B w' v S:=by
 refine h.kb r (KB.of_below k Nl) fun g q=>?_
 obtain⟨cs, -,o, -⟩:=h;exact k.block g (qT o g q)
theorem CallsO.le {w0 w:World}{B b:Nat}{v:Value}{S:List CallS}(h:CallsO w0 B w v S)(o:b≤B):CallsO w0 b w v S:=by
 obtain⟨cs,D,r,q⟩:=h;exact⟨cs,D,ownsRow_le r o,fun i hi=>(q i hi).le o⟩
theorem qX {α:Type}(L:List α)(x d:α)(i:Nat):(L++[x]).getD i d=if i<L.length then L.getD i d else if i=L.length then x else d:=by
 simp only[Lg];by_cases h:i<L.length
 ·rw[List.getElem?_append_left h,if_pos h]
 ·rw[if_neg h,List.getElem?_append_right (by omega)];by_cases o:i=L.length
  ·subst o;simp
  ·rw[if_neg o,List.getElem?_eq_none (by simp;omega)];rfl
theorem CallsO.snoc {w0 w w':World}{B:Nat}{v':Value}{S:List CallS}{s:CallS}{cs:List (List Value)}{c:List Value}(D: ∀i,i<S.length→CallAt w0 B w (S.getD i .zero) (cs.getD i []))(o:cs.length=S.length)(G:CallAt w0 B w s c)
  (I:w'.ownsRow B 73 6 v' (S.length+1) (cs.flatten++c)) (q:w0.heap.size≤B) (r:KB B w w'):CallsO w0 B w' v' (S++[s]):=by
 refine⟨cs++[c],by simp[o],by simpa using I,fun i hi=>?_⟩;simp only[List.length_append,List.length_singleton]at hi;rw[qX,qX,o];by_cases h:i<S.length
 ·rw[if_pos h,if_pos h];exact(D i h).kb q r
 ·rw[if_neg h,if_neg h,if_pos (by omega),if_pos (by omega)];exact G.kb q r
theorem Ym {W W':World}{O X D J Y U n1 V:Nat}{I r:Value}{x1 x2:List Value}(S:W.ownsRow O D Y I n1 x1)(G:W.ownsRow X J U r V x2)(hT:D≠J)(h:Spare (fun k=>I.ownBlock≠some k) W W'): ∀g,r.ownBlock=some g→W'.heap[g]? =W.heap[g]? :=by
 intro g o;refine h.block g (qT G g o) fun e=>?_
 rcases S.2 with⟨rfl, -⟩|⟨g1,k1,c1,rfl, -,Z, -⟩
 ·cases e
 rcases G.2 with⟨rfl, -⟩|⟨g2,k2,c2,rfl, -,q, -⟩
 ·cases o
 simp only[Value.ownBlock,Option.some.injEq]at e o;subst e o;rw[Z]at q;simp only[Option.some.injEq,Obj.cells.injEq]at q;exact hT q.2.1
theorem Q6 {W W':World}{B T s n:Nat}{v:Value}{xs:List Value}(h:W.ownsRow B T s v n xs)(I: ∀g,v.ownBlock=some g→W'.heap[g]? =W.heap[g]?):W'.ownsRow B T s v n xs:=by
 refine⟨h.1,?_⟩;rcases h.2 with o|⟨g,r,q,rfl,D,o,G⟩
 ·exact .inl o
 ·exact .inr ⟨g,r,q,rfl,D,by rw[I g rfl];exact o,G⟩
theorem Q4 {W:World}{B T s n:Nat}{v:Value}{xs:List Value}(h:W.ownsRow B T s v n xs): ∃a n c,v= .slice a n c:=by
 rcases h.2 with⟨rfl, -⟩|⟨g,q,o,rfl, -⟩
 ·exact⟨_,_,_,rfl⟩
 ·exact⟨_,_,_,rfl⟩
def LevO (w0:World)(B:Nat)(w:World)(v:Value)(SS:List (List CallS)):Prop:=
 ∃vs:List Value,w.ownsRow B 111 1 v SS.length vs∧ ∀i,i<SS.length→CallsO w0 B w (vs.getD i undef) (SS.getD i [])
theorem LevO.nil (w0:World)(B:Nat)(w:World):LevO w0 B w (.slice none 0 0) []:=⟨[],Wo _ _ _ _,fun i hi=>by simp at hi⟩
theorem LevO.below {w0 w w':World}{B:Nat}{v:Value}{o:List (List CallS)}(h:LevO w0 B w v o)(G:w0.heap.size≤w.heap.size)(k:Below w.heap.size w w'):LevO w0 B w' v o:=by
 obtain⟨vs,r,q⟩:=h;exact⟨vs,qi r (fun g _ D=>k.block g D),fun i hi=>(q i hi).below G k⟩
theorem LevO.le {w0 w:World}{B b:Nat}{v:Value}{q:List (List CallS)}(h:LevO w0 B w v q)(o:b≤B):LevO w0 b w v q:=by
 obtain⟨vs,D,r⟩:=h;exact⟨vs,ownsRow_le D o,fun i hi=>(r i hi).le o⟩
theorem LevO.snoc {w0 w w':World}{B:Nat}{v v' x:Value}{o:List (List CallS)}{S:List CallS}{vs:List Value}(r:w.ownsRow B 111 1 v o.length vs)(G: ∀i,i<o.length→CallsO w0 B w (vs.getD i undef) (o.getD i []))(X:CallsO w0 B w x S)
  (D:w'.ownsRow B 111 1 v' (o.length+1) (vs++[x])) (U:w0.heap.size≤B) (V:KB B w w') (q:Spare (fun k=>v.ownBlock≠some k) w w'):LevO w0 B w' v' (o++[S]):=by
 have I:vs.length=o.length:=by have:=r.1;simpa using this
 have one: ∀u S,CallsO w0 B w u S→CallsO w0 B w' u S:=fun u S h=>by
  refine h.kb U V fun g O=>?_
  obtain⟨cs, -,J, -⟩:=h;exact Ym r J (by decide) q g O
 refine⟨vs++[x],by simpa using D,fun i hi=>?_⟩;simp only[List.length_append,List.length_singleton]at hi;rw[qX,qX,I];by_cases h:i<o.length
 ·rw[if_pos h,if_pos h];exact one _ _ (G i h)
 ·rw[if_neg h,if_neg h,if_pos (by omega),if_pos (by omega)];exact one _ _ X
theorem qav:(Tryz.prog.info? 73).map (fun i=>(i.zero,i.size,i.bytes))=some (some (.agg Ke),6,96):=by kernel_rfl
theorem qb1:(Tryz.prog.info? 111).map (fun i=>(i.zero,i.size,i.bytes))=some (some (.slice none 0 0),1,24):=by kernel_rfl
theorem Jc {ops:Array Oper}{q:List Oper}{o:Oper}{r:Act}{w:World}{Q:Exit→Act→World→Prop}(Z:o.guard=none)(x:Operand)(ho:o.op= .buildSlice 111 1 #[(0,x)])(J O S U I G:Value)(Y:r.eval x= .agg #[J,O,S,U,I,G])
  (h:wpList Tryz.prog ops Q q (r.put o.dst (.slice (some ⟨w.heap.size,0,none⟩) 1 1)) (w.alloc (.cells #[J,O,S,U,I,G] 73))):wpList Tryz.prog ops Q (o::q) r w:=by
 obtain⟨ib,V,X,D, -⟩:=info_parts qav;exact wpList_buildSlice Z 111 73 1 _ ho #[J,O,S,U,I,G] ib _ Tryz.underlying111 V X (by rw[D];decide) (by rw[D];decide) (by rw[D,show Array.range (1*6)= #[0,1,2,3,4,5] by decide];simp[Y,Instr.fill,Value.cells]) h
theorem qcq {ops:Array Oper}{r:List Oper}{o:Oper}{D:Act}{w:World}{Q:Exit→Act→World→Prop}(U:o.guard=none)(x:Operand)(O:o.op= .buildSlice 114 1 #[(0,x)])(a:Option Addr)(n k:Nat)(J:D.eval x= .slice a n k)
  (h:wpList Tryz.prog ops Q r (D.put o.dst (.slice (some ⟨w.heap.size,0,none⟩) 1 1)) (w.alloc (.cells #[.slice a n k] 111))):wpList Tryz.prog ops Q (o::r) D w:=by
 obtain⟨S,I,G,q, -⟩:=info_parts qb1;exact wpList_buildSlice U 114 111 1 _ O #[.slice a n k] S _ Tryz.underlying114 I G (by rw[q];decide) (by rw[q];decide) (by rw[q,show Array.range (1*1)= #[0] by decide];simp[J,Instr.fill,Value.cells]) h
def TreeV.callS (t:TreeV)(kz z1 z2:List Int)(row i:Nat)(la rt:Bool)(d:List Int):CallS:=⟨t.k,t.blk z1 z2 row i,Y6 row kz,la,t.outN rt,d⟩
def TreeV.rowC (t:TreeV)(kz z1 z2:List Int)(row:Nat)(rt:Bool)(L:List (List Int))(m:Nat):List CallS:=(List.range m).map fun i=>t.callS kz z1 z2 row i (decide (i+1=L.length)) rt (qC L i)
theorem zE (t:TreeV)(kz z1 z2:List Int)(row:Nat)(rt:Bool)(L:List (List Int))(m:Nat):t.rowC kz z1 z2 row rt L (m+1)=t.rowC kz z1 z2 row rt L m++[t.callS kz z1 z2 row m (decide (m+1=L.length)) rt (qC L m)]:=by simp[TreeV.rowC,List.range_succ]
theorem qV (t:TreeV)(kz z1 z2:List Int)(row:Nat)(rt:Bool)(L:List (List Int))(m:Nat):(t.rowC kz z1 z2 row rt L m).length=m:=by simp[TreeV.rowC]
def TreeV.leafZ (t:TreeV)(kz z1 z2 zs:List Int):List (List Int):=t.rowZ kz z1 z2 0 false (QC t.ln zs) (QC t.ln zs).length
theorem Qc {t:TreeV}(h:t.validE=0)(D:0≤t.l∧t.l≤4294967295)(kz z1 z2 zs:List Int):t.leafZ kz z1 z2 zs≠[]∧(t.leafZ kz z1 z2 zs).length≤zs.length+1∧ ∀z∈t.leafZ kz z1 z2 zs,z.length≤64:=by
 have o:1≤t.ln:=by
  have:=(qn h).2.2.2.2.2.2.2.2.1
  unfold TreeV.ln;omega
 have r:=qb8 zs o;have G:(t.leafZ kz z1 z2 zs).length=(QC t.ln zs).length:=TreeV.rowZ_length ..;exact⟨List.length_pos_iff.1 (by omega),by omega,fun z q=>ZZ _ _ _ _ _ _ _ _ z q⟩
structure Tend (F:Nat→Prop)(w w':World):Prop where
 sp:Spare (fun k=> ¬F k) w w'
 bytes: ∀(k:Nat) (c:Array Value),w.heap[k]? =some (.cells c 5 (0,0))→w'.heap[k]? =some (.cells c 5 (0,0))
theorem OwnB.tend {B:Nat}{w w':World}{x:Value}{z:List Int}(h:OwnB B w x z)(I: ∀(k:Nat) (c:Array Value),w.heap[k]? =some (.cells c 5 (0,0))→w'.heap[k]? =some (.cells c 5 (0,0))):OwnB B w' x z:=by
 refine⟨h.1,?_⟩;rcases h.2 with h|⟨g,q,o,e,r,G,D⟩
 ·exact .inl h
 ·exact .inr ⟨g,q,o,e,r,I _ _ G,D⟩
theorem ListO.tend {B:Nat}{w w':World}{v:Value}{L:List (List Int)}(h:ListO B w v L)(D: ∀(k:Nat) (c:Array Value),w.heap[k]? =some (.cells c 5 (0,0))→w'.heap[k]? =some (.cells c 5 (0,0)))(r: ∀g,v.ownBlock=some g→w'.heap[g]? =w.heap[g]?):ListO B w' v L:=by
 obtain⟨vs,q,o⟩:=h;exact⟨vs,Q6 q r,fun i hi=>(o i hi).tend D⟩
theorem ListO.block_lt {B:Nat}{w:World}{v:Value}{L:List (List Int)}(h:ListO B w v L): ∀g,v.ownBlock=some g→g<w.heap.size:=by
 obtain⟨vs,o, -⟩:=h;exact qT o
structure Seer (t:TreeV)(kz z1 z2:List Int)(w0:World)(fk bl:Nat)(I:List (List CallS)→List CallS→(Nat→Prop)→World→Prop):Prop where
 lt: ∀{done cur F w},I done cur F w→ ∀k,F k→w0.heap.size≤k∧k<w.heap.size
 keep: ∀{done cur F w w'},I done cur F w→Below w0.heap.size w w'→(∀k,F k→w'.heap[k]? =w.heap[k]?)→(∀(k:Nat) (c:Array Value),w.heap[k]? =some (.cells c 5 (0,0))→w'.heap[k]? =some (.cells c 5 (0,0)))→I done cur F w'
 next: ∀{done cur F w},cur≠[]→I done cur F w→I (done++[cur]) [] F w
 see: ∀{done cur F w} {row i:Nat} {la rt:Bool} {d:List Int} {bv kv dv:Value},I done cur F w→done.length=row→row≤255→i≤8388608→(∀l∈done,l.length≤8388608)→cur.length≤8388608→Below w0.heap.size w0 w→
  w.ownsRow w0.heap.size 5 1 bv (mB t.big) ((t.blk z1 z2 row i).map qo)→w.ownsRow w0.heap.size 5 1 kv (Y6 row kz).length ((Y6 row kz).map qo)→OwnB w0.heap.size w dv d→d.length≤1073741824→
  Calls Tryz.prog fk #[.agg (yX t.k bv kv la (t.outN rt) dv),.int .i64 row,.pointer (some ⟨bl,0,none⟩)] w fun e w'=> ∃u F',e= .returned u∧OwnB w.heap.size w' u (t.node kz z1 z2 row i la rt d)∧(∀k,F' k→F k∨w.heap.size≤k)∧I done (cur++[t.callS kz z1 z2 row i la rt d]) F' w'∧Tend F w w'
def TreeV.dataR (t:TreeV)(kz z1 z2 zs:List Int):Nat→List (List Int)
 | 0=>QC t.ln zs
 | r+1=>t.upZ (r+1) (t.lvlZ kz z1 z2 (t.leafZ kz z1 z2 zs) r)
def TreeV.rtR (t:TreeV)(kz z1 z2 zs:List Int):Nat→Bool
 | 0=>false
 | r+1=>t.rootZ (r+1) (t.lvlZ kz z1 z2 (t.leafZ kz z1 z2 zs) r).length
def TreeV.callsR (t:TreeV)(kz z1 z2 zs:List Int)(r:Nat):List CallS:=t.rowC kz z1 z2 r (t.rtR kz z1 z2 zs r) (t.dataR kz z1 z2 zs r) (t.dataR kz z1 z2 zs r).length
def TreeV.allC (t:TreeV)(kz z1 z2 zs:List Int)(m:Nat):List (List CallS):=(List.range m).map (t.callsR kz z1 z2 zs)
theorem TreeV.lvl_is (t:TreeV)(kz z1 z2 zs:List Int)(r:Nat):t.lvlZ kz z1 z2 (t.leafZ kz z1 z2 zs) r=t.rowZ kz z1 z2 r (t.rtR kz z1 z2 zs r) (t.dataR kz z1 z2 zs r) (t.dataR kz z1 z2 zs r).length:=by
 cases r<;>rfl
theorem TreeV.allC_succ (t:TreeV)(kz z1 z2 zs:List Int)(m:Nat):t.allC kz z1 z2 zs (m+1)=t.allC kz z1 z2 zs m++[t.callsR kz z1 z2 zs m]:=by simp[TreeV.allC,List.range_succ]
theorem TreeV.allC_length (t:TreeV)(kz z1 z2 zs:List Int)(m:Nat):(t.allC kz z1 z2 zs m).length=m:=by simp[TreeV.allC]
theorem Zq {t:TreeV}(h:t.validE=0)(I:0≤t.l∧t.l≤4294967295)(kz z1 z2 zs:List Int)(r:Nat):1≤(t.dataR kz z1 z2 zs r).length∧(t.dataR kz z1 z2 zs r).length≤zs.length+1∧ ∀i,(qC (t.dataR kz z1 z2 zs r) i).length≤64*(zs.length+1):=by
 have G:=Qc h I kz z1 z2 zs;have q:1≤t.ln:=by
  have:=(qn h).2.2.2.2.2.2.2.2.1
  unfold TreeV.ln;omega
 cases r with
 | zero=>
  have o:=qb8 zs q;exact⟨o.1,o.2,fun i=>by have:=qfb (n:=t.ln) zs i;show(qC (QC t.ln zs) i).length≤_;omega⟩
 | succ r=>
  have D:=Qo h kz z1 z2 G.1 G.2.2 r;have o:=Zu h (r+1) D.1;refine⟨o.1,?_,fun i=>?_⟩
  ·show(t.upZ (r+1) _).length≤_;omega
  ·have O:=jB t (r+1) (t.lvlZ kz z1 z2 (t.leafZ kz z1 z2 zs) r) i;have J:=ze D.2.2;show(qC (t.upZ (r+1) _) i).length≤_
   omega
theorem qdn {ops:Array Oper}{I:List Oper}{o:Oper}{a:Act}{Q:Exit→Act→World→Prop}{W:World}(ac:o.guard=none)(s x:Operand)
  (ho:o.op= .call { callee:= .builtin .append,args:= #[s,x],argTypes:= #[67,67] }) (B:Nat) (v:Value) (L:List (List Int)) (z:List Int) (u:Value) (hs:a.eval s=v) (hl:ListO B W v L) (Z:OwnB B W u z)
  (hx:a.eval x= .slice (some ⟨W.heap.size,0,none⟩) 1 1) (af:L.length≤8388608) (hB:B≤W.heap.size)
  (h: ∀v' w',ListO B w' v' (L++[z])→KB B W w'→Spare (fun k=>v.ownBlock≠some k) W w'→(v'.ownBlock=v.ownBlock∨ ∀g,v'.ownBlock=some g→W.heap.size≤g)→wpList Tryz.prog ops Q I (a.put o.dst v') w'):wpList Tryz.prog ops Q (o::I) a (W.alloc (.cells #[u] 24)):=by
 obtain⟨ib,X,aa,ab,ae⟩:=info_parts Yh;obtain⟨vs,r,U⟩:=hl;have Y:vs.length=L.length:=by have:=r.1;simpa using this
 refine wpList_append_own_at _ ac s x _ ho B 24 ib (.slice none 0 0) 1 24 Tryz.underlying67 X aa ab ae rfl (by decide) v L.length vs hs (r.alloc _) ⟨W.heap.size,0,none⟩ 1 1 [u] hx rfl (cell_one_new W u _) (by simpa using Z.one) (by unfold maxLen;omega) (by omega) (by simp;omega) fun v' w' h2 h3 _ D=>?_
 have q:Spare (fun k=>v.ownBlock≠some k) W w':=(Spare.of_below _ (Br.alloc Nl _)).trans (Spare.of_grown h3) (fun _ _ h=>h);have O:KB B W w':=⟨q.os,q.tape,q.output,q.size,fun k hk=>q.block k (by omega) (fun G=>by
   rcases r.2 with⟨rfl, -⟩|⟨g,ad,S,rfl,h4, -⟩
   ·cases G
   ·simp only[Value.ownBlock,Option.some.injEq]at G;omega),fun k c J=>by
   rw[q.block k (Ai J).1 (fun G=>?_)]
   ·exact J
   ·rcases r.2 with⟨rfl, -⟩|⟨g,ad,S,rfl, -,D, -⟩
    ·cases G
    ·simp only[Value.ownBlock,Option.some.injEq]at G;subst G;rw[D]at J;simp only[Option.some.injEq,Obj.cells.injEq]at J;exact absurd J.2.1 (by decide)⟩
 refine h v' w' (ListO.snoc (w:=W) (vs:=vs) U Y Z h2 O) O q ?_;rcases D with D|D
 ·exact .inl D
 ·exact .inr fun g V=>by rw[D]at V;simp only[World.alloc,Array.size_push,Option.some.injEq]at V;omega
theorem qh6 {t:TreeV}{kz z1 z2 zs:List Int}{w0:World}{fk bl:Nat}{I:List (List CallS)→List CallS→(Nat→Prop)→World→Prop}(hS:Seer t kz z1 z2 w0 fk bl I)(hT:TreeOk t kz z1 z2 w0)(hn:zs.length≤4194304)(v:Value)(w:World)(Z:Nat→Prop)
  (hw:Below w0.heap.size w0 w) (hI:I [] [] Z w) (hv:ListO w0.heap.size w v (QC t.ln zs)) (a9: ∀g,v.ownBlock=some g→ ¬Z g) (cp: ∀(args:Array Value) (W:World),(callFunc fk args).run Tryz.prog W= .ok (.enter fk args) W):
  Calls Tryz.prog 107 #[t.val,v,.func (.func fk) #[] #[.pointer (some ⟨bl,0,none⟩)]] w fun e w'=>e= .returned (.tuple #[])∧(∃R F',t.topAt kz z1 z2 (t.leafZ kz z1 z2 zs) R∧I (t.allC kz z1 z2 zs R) (t.callsR kz z1 z2 zs R) F' w'∧ ∀k,F' k→Z k∨w.heap.size≤k)∧Below w0.heap.size w w'∧Tend Z w w':=by
 obtain⟨X,ae⟩:=Ex w.heap.size;have aO:w0.heap.size≤X:=by have:=hw.size;omega
 have HS:=hid hS;have HT:=hid hT;have HW:=hid hw;have HI:=hid hI;have HV:=hid hv;have b4:=hid a9;have bm:=hid (fun k G=>hS.lt hI k G);have bh:=hid (fun r=>Zq hT.v hT.l kz z1 z2 zs r);have an:=Qc hT.v hT.l kz z1 z2 zs;have bJ:=hid (Qo hT.v kz z1 z2 an.1 an.2.2);have bw:=hid an.2.1;have hp:2≤t.p∧t.p≤255:=⟨(qn hT.v).2.2.2.2.2.2.1,(qn hT.v).2.2.2.2.2.2.2.1⟩;obtain⟨va,vc,rfl,cm,cn, -⟩:=hv.hold;have a5:Below X w (w.alloc (.cells t.c 26)):=by rw[←ae];exact Br.alloc Nl _
 have al:=Wn w (.cells t.c 26);rw[ae]at al;clear hS hT hw hI hv a9 an;unfold TreeV.val;go_enter Tryz.func107,Tryz.ntmps107
 go_upto_region 1 with(fail)
 generalize w.alloc (.cells t.c 26)=wA at*;have b6:=hid al;have ab:=hid a5;have cG:X<wA.heap.size:=(Ai al).1;clear al a5;go_wp2_with fail
 go_loopw [1,6,7] (fun d rt i wr=> ∃(r:Nat) (F:Nat→Prop),i= .int .i64 r∧(r:Int)≤t.p - 1∧rt= .bool (t.rtR kz z1 z2 zs r)∧ListO w0.heap.size wr d (t.dataR kz z1 z2 zs r)∧(∀g,d.ownBlock=some g→ ¬F g)∧I (t.allC kz z1 z2 zs r) [] F wr∧(∀k,F k→Z k∨X<k)∧
   (∀q',1≤q'→q'<r→t.rootZ q' (t.lvlZ kz z1 z2 (t.leafZ kz z1 z2 zs) (q' - 1)).length=false)∧Below w0.heap.size w wr∧Tend Z w wr∧wr.heap[X]? =some (.cells t.c 26 (0,0))) (fun _ _ i _=>256 - (intOf i).toNat)
 case atStart=>
  have a7:KB 0 w wA:=KB.of_below (ae▸ab.out) (Nat.zero_le _);exact⟨0,Z,rfl,by omega,rfl,HV.out.below (ae▸ab.out),b4.out,HS.out.keep HI.out (ab.out.mono aO) (fun k G=>ab.out.block k (by have:=(bm.out k G).2;omega)) a7.bytes,fun k G=> .inl G,fun q' h1 S=>by omega,ab.out.mono aO,⟨Spare.of_below _ (ae▸ab.out),a7.bytes⟩,b6.out⟩
 case round=>
  obtain⟨r,F,rfl,cw,rfl,hd,aP,a3,aJ,bc,hb,ht,aa⟩:=hrel;rename World=>wq
  have bj:Below w0.heap.size w0 wq:=HW.out.trans hb;obtain⟨d1,d2,d3⟩:=bh.out r;have be:=t.lvl_is kz z1 z2 zs r;have aK:t.callsR kz z1 z2 zs r=t.rowC kz z1 z2 r (t.rtR kz z1 z2 zs r) (t.dataR kz z1 z2 zs r) (t.dataR kz z1 z2 zs r).length:=rfl;have aY: ∀b,t.rtR kz z1 z2 zs r=b→(b=true→1≤r∧t.rootZ r (t.lvlZ kz z1 z2 (t.leafZ kz z1 z2 zs) (r - 1)).length=true)∧(b=false→1≤r→t.rootZ r (t.lvlZ kz z1 z2 (t.leafZ kz z1 z2 zs) (r - 1)).length=false):=by
   intro b hb;subst hb
   cases r with
   | zero=>exact⟨(fun h=>by cases h),(fun _ h=>by omega)⟩
   | succ r=>exact⟨fun h=>⟨by omega,h⟩,fun h _=>h⟩
  have aH:=hid aY;have bI:=hid be;have bd:=hid aK;have cj:=hid (show ∀q,q=r+1→t.dataR kz z1 z2 zs q=t.upZ q (t.lvlZ kz z1 z2 (t.leafZ kz z1 z2 zs) r)∧t.rtR kz z1 z2 zs q=t.rootZ q (t.lvlZ kz z1 z2 (t.leafZ kz z1 z2 zs) r).length from fun q hq=>by subst hq;exact⟨rfl,rfl⟩);have bA:=hid (bJ.out r);have bK:=hid (show ∀l∈t.allC kz z1 z2 zs r,l.length≤8388608 from fun l hl=>by
   obtain⟨q, -,rfl⟩:=List.mem_map.1 hl;have:=(bh.out q).2.1
   show(t.rowC _ _ _ _ _ _ _).length≤_
   rw[qV];omega)
  have b7:=hid (t.allC_length kz z1 z2 zs r);have bT:=hid (t.allC_succ kz z1 z2 zs r);generalize t.dataR kz z1 z2 zs r=D at*;generalize t.rtR kz z1 z2 zs r=rt at*;generalize aB:t.callsR kz z1 z2 zs r=CR at*;generalize aq:t.allC kz z1 z2 zs r=AC at*;have bo:=hid aB;have bu:=hid aq;clear aB aq;obtain⟨dg,dc,dx,rfl,cE, -, -⟩:=hd.get (i:=0) (by omega);have bp: ¬F dg:=aP dg rfl;have bq: ¬F X:=fun h=>by
   rcases aJ X h with S|S
   ·have:=(bm.out X S).2;omega
   ·omega
  obtain⟨bN,ce⟩:=Ex wq.heap.size;have cH:X<bN:=by rw[←ce];exact(Ai aa).1
  have HD:=hid hd;have b3:=hid a3;have aU:=hid aJ;have aV:=hid bc;have HB:=hid hb;have cd:=hid ht;have bR:=hid aa;have ct:=hid bj;have bP:=hid d3;have cv:D.length≤4194305:=by omega
  have cB:(D.length:Int)≤9223372036854775807:=by omega
  clear hd aP a3 aJ bc hb ht aa bj be aK aY d3 d2;go_wp2_with fail
  go_loopw [8,15] (fun s i wr=> ∃(j:Nat) (F':Nat→Prop),i= .int .i64 j∧j≤D.length∧ListO bN wr s (t.rowZ kz z1 z2 r rt D j)∧(∀g,s.ownBlock=some g→ ¬F' g)∧I AC (t.rowC kz z1 z2 r rt D j) F' wr∧(∀k,F' k→F k∨bN≤k)∧ListO w0.heap.size wr (.slice (some ⟨dg,0,none⟩) D.length dc) D∧Below w0.heap.size w wr∧Tend Z w wr∧wr.heap[X]? =some (.cells t.c 26 (0,0))∧bN≤wr.heap.size) (fun _ i _=>D.length - (intOf i).toNat)
  case atStart=>exact⟨0,F,rfl,Nat.zero_le _,ListO.nil _ _,(fun g h=>by cases h),b3.out,fun k h=> .inl h,HD.out,HB.out,cd.out,bR.out,by omega⟩
  case round=>
   obtain⟨j,F',rfl,hj,ho,au,hI,ad,hd,hb,ht,aa,bX⟩:=hrel;by_cases bY:j<D.length
   case pos=>
    have cl:(j:Int)<D.length:=by omega
    obtain⟨g1,c1,x,e,cF,hx,ap⟩:=hd.get bY;simp only[Value.slice.injEq,Option.some.injEq,Addr.mk.injEq,and_true,true_and]at e;obtain⟨rfl,rfl⟩:=e;obtain⟨xb,xd,rfl, -, -⟩:=ap.hold.slice;have cc:=hid ap;have bQ:=hid (bP.out j);obtain⟨ql,aw⟩: ∃q:Bool,decide (j+1=D.length)=q:=⟨_,rfl⟩;have cu:((j:Int)==(D.length:Int) - 1)=ql:=by
     rw[←aw,Bool.eq_iff_iff,beq_iff_eq,decide_eq_true_eq];omega
    have bf:=hid aw;have cD:IntKind.u64.wrap (j:Int)=(j:Int):=u64_wrap_id _ (by omega) (by omega);have HO:=hid ho;have av:=hid au;have am:=hid hI;have Y:=hid ad;have b5:=hid hd;have ag:=hid hb;have ac:=hid ht;have a6:=hid aa;have aI:=hid (HW.out.trans hb);have U:w0.heap.size≤wr.heap.size:=aI.out.size;have aW:=HT.out.below aI.out;have af:=hid aW;obtain⟨a8,c8,rfl, -, -, -⟩:=ho.hold;have b8:=hid (HS.out.lt hI);clear ap aw ho au hI ad hd hb ht aa aW;go_wp2_with (refine L26 X rfl a6.out ?_)
    refine(qed t af.out.v af.out.l z1 z2 kz r j (by omega) (by omega) ql rt xb (qC D j).length xd wr af.out.s af.out.p af.out.k).mono ?_;rintro e w4 ⟨bv,kv,rfl,bb,a4,V⟩;have cy:=V.size;have aj:=KB.of_below V bX;have ay:=hid (HS.out.keep am.out (V.mono U) (fun k G=>V.block k (b8.out k G).2) aj.bytes);have bL:=hid (cc.out.kb aj);have ba:=hid (HO.out.below V);have bg:=hid (b5.out.below V);have cg:=hid (qf a6.out V);have bH:=hid (aI.out.trans (V.mono U));have bO:=hid (ag.out.trans (V.mono U));have aR:=hid (show Tend Z w w4 from⟨ac.out.sp.trans (Spare.of_below (fun k=> ¬Z k) V) (fun _ _ h=>h),fun k c h=>aj.bytes k c (ac.out.bytes k c h)⟩);have aT:=hid (HS.out.see (la:=ql) (rt:=rt) ay.out b7.out (by omega) (show j≤8388608 by omega) bK.out (by rw[qV];omega) bH.out (ownsRow_le bb U) (ownsRow_le a4 U) bL.out (by have:=bQ.out;omega));have br:=hid (HS.out.lt ay.out);clear bb a4 aj V;go_wp2_with fail
    refine aT.out.mono ?_;rintro e w5 ⟨u,F5,rfl,hu,ax,az,J⟩;obtain⟨u1,u3,rfl, -, -⟩:=hu.hold.slice;have cA:=J.sp.size;have aD: ∀g,(Value.slice a8 (t.rowZ kz z1 z2 r rt D j).length c8).ownBlock=some g→g<wr.heap.size:=HO.out.block_lt;have bi:KB w0.heap.size w4 w5:=⟨J.sp.os,J.sp.tape,J.sp.output,J.sp.size,fun k G=>J.sp.block k (by omega) (fun h=>by have:=(br.out k h).1;omega),J.bytes⟩;have aQ:=hid (ba.out.tend J.bytes (fun g O=>J.sp.block g (by have:=aD g O;omega) (av.out g O)));have ar: ¬F' dg:=fun h=>by
     rcases Y.out dg h with S|S
     ·exact bp S
     ·omega
    have aE: ¬F' X:=fun h=>by
     rcases Y.out X h with S|S
     ·exact bq S
     ·omega
    have bE:=hid (bg.out.tend J.bytes (fun g O=>by
     simp only[Value.ownBlock,Option.some.injEq]at O;subst O;exact J.sp.block dg (by omega) ar))
    have bU:=hid ((J.sp.block X (by omega) aE).trans cg.out);have ca:=hid (hu.le (show bN≤w4.heap.size by omega));have ci:=hid (show ∀k,F5 k→F k∨bN≤k from fun k G=>by
     rcases ax k G with h|h
     ·exact Y.out k h
     ·exact .inr (by omega))
    have ai:=hid (show ∀g,(Value.slice a8 (t.rowZ kz z1 z2 r rt D j).length c8).ownBlock=some g→ ¬F5 g from fun g O h=>by
     rcases ax g h with S|S
     ·exact av.out g O S
     ·have:=aD g O;omega)
    have cb:=hid az;have bV:=hid (bO.out.trans bi.below);have aX:=hid (show Tend Z w w5 from⟨aR.out.sp.trans J.sp (fun k G h S=>by
     rcases Y.out k S with h3|h3
     ·rcases aU.out k h3 with h4|h4
      ·exact h h4
      ·omega
     ·omega),fun k c h=>J.bytes k c (aR.out.bytes k c h)⟩)
    have aA:=hid (HS.out.lt az);have bk:t.node kz z1 z2 r j ql rt (qC D j)=t.node kz z1 z2 r j (decide (j+1=D.length)) rt (qC D j):=by rw[bf.out]
    have aZ:t.callS kz z1 z2 r j ql rt (qC D j)=t.callS kz z1 z2 r j (decide (j+1=D.length)) rt (qC D j):=by rw[bf.out]
    have bG:=hid bk;have bW:=hid aZ;have aG:=t.rowZ_length kz z1 z2 r rt D j;have bD:=hid aG;generalize t.node kz z1 z2 r j ql rt (qC D j)=ND at*;generalize t.callS kz z1 z2 r j ql rt (qC D j)=CD at*;rw[aG]at aQ ai⊢;clear hu ax az J bi bk aZ aG aT HO av ba bg ay aD ar aE;go_wp2_with (first|((with_reducible show wpList _ _ _ (Oper.mk _ (Op.buildSlice _ _ _) _ _ _ _::_) _ _);refine QS rfl _ rfl _ _ _ rfl ?_)|(at_builtin;refine qdn rfl _ _ rfl bN (.slice a8 j c8) (t.rowZ kz z1 z2 r rt D j) ND (.slice u1 ND.length u3) rfl aQ.out ca.out rfl (by rw[bD.out];omega) (by omega) ?_;intro v' w' bt o bx bz))
    have cC:=o.size;have bn:Below w0.heap.size w5 w':=o.below.mono (by omega);have ck: ∀k,F5 k→w'.heap[k]? =w5.heap[k]? :=fun k G=>bx.block k (aA.out k G).2 (fun e=>ai.out k e G)
    refine⟨⟨j+1,F5,rfl,by omega,?_,?_,?_,ci.out,?_,bV.out.trans bn,⟨aX.out.sp.trans (T:=fun k=>k<bN) ⟨o.os,o.tape,o.output,o.size,fun k _ G=>o.block k G⟩ (fun k G _=>by omega),fun k c h=>o.bytes k c (aX.out.bytes k c h)⟩,?_,by omega⟩,by simp[intOf];omega⟩
    ·rw[zD,←bG.out];exact bt
    ·intro g O h;rcases bz with S|S
     ·rw[S]at O;exact ai.out g O h
     ·have:=S g O;have:=(aA.out g h).2;omega
    ·rw[zE,←bW.out];exact HS.out.keep cb.out bn ck o.bytes
    ·exact bE.out.tend o.bytes (fun g O=>by
      simp only[Value.ownBlock,Option.some.injEq]at O;subst O;exact o.block dg (by omega))
    ·exact(o.block X (by omega)).trans bU.out
   obtain rfl:j=D.length:=by omega
   rw[←bd.out]at hI;rw[←bI.out]at ho;obtain⟨a8,c8,rfl,cf,bM, -⟩:=id ho.hold;have HO:=hid ho;have am:=hid hI;have Y:=hid (show ∀k,F' k→Z k∨X<k from fun k G=>by
    rcases ad k G with h|h
    ·exact aU.out k h
    ·exact .inr (by omega))
   have ag:=hid hb;have ac:=hid ht;have aS:=hid (HS.out.lt hI);clear ho au hI ad hd hb ht
   cases rt
   case true=>
    go_wp2_with fail
    exact Bp (results_none rfl _ _ _) rfl ⟨rfl,⟨r,F',⟨((aH.out true rfl).1 rfl).1,((aH.out true rfl).1 rfl).2,aV.out⟩,by rw[bu.out,bo.out];exact am.out,fun k G=>by
     rcases Y.out k G with h|h
     ·exact .inl h
     ·exact .inr (by omega)⟩,ag.out,ac.out⟩
   case false=>
    obtain⟨l1,l2,l3⟩:=bA.out;have bZ:=ze l3;have bF:=bw.out;have aM:=hid ((aH.out false rfl).2 rfl);have aN:=hid (qi2 t HT.out.v (r+1) (by omega) _ _ wr HO.out.hold (by omega) (by omega) l1);have cq:IntKind.i64.wrap ((r:Int)+1)=((r+1:Nat):Int):=by rw[IntKind.wrap_i64]<;>omega
    have cz:((r:Int)+1)≤t.p - 1:=by
     by_cases h0:r=0
     ·omega
     ·by_cases h1:(r:Int)=t.p - 1
      ·have S:=aM.out (by omega);rw[qaG h1]at S
       cases S
      ·omega
    have aC:CR≠[]:=by
     rw[bd.out];exact List.length_pos_iff.1 (by rw[qV];omega)
    have bs:=hid aC;obtain⟨aF,ak⟩:=cj.out (r+1) rfl;have aF:=hid aF;have ak:=hid ak;generalize t.lvlZ kz z1 z2 (t.leafZ kz z1 z2 zs) r=LZ at*;obtain⟨M,hM⟩:=Ex LZ.length;rw[hM]at aN ak⊢;clear l1 l2 l3 bZ bF aC cf bM hM;go_wp2_with (refine L26 X rfl aa ?_)
    refine aN.out.mono ?_;rintro e w9 ⟨u,rfl,hu,ah⟩;have cr:=ah.size;have aL:=KB.of_below ah (Nat.zero_le _);have U:w0.heap.size≤wr.heap.size:=by have:=(HW.out.trans ag.out).size;omega
    have ao:=hid ah;have bS:=hid (qf aa ah);have ch:=hid hu;obtain⟨ua,uc,rfl, -, -, -⟩:=id hu.hold;have b9:=hid (show ∀g,(Value.slice ua (t.upZ (r+1) LZ).length uc).ownBlock=some g→wr.heap.size≤g from fun g O=>by
     obtain⟨vs,bC, -⟩:=hu;rcases bC.2 with⟨e, -⟩|⟨g',cx,co,e,h1, -⟩
     ·simp only[Value.slice.injEq]at e;rw[e.1]at O;cases O
     ·simp only[Value.slice.injEq]at e;rw[e.1]at O;simp only[Value.ownBlock,Option.some.injEq]at O;omega)
    clear hu ah;go_wp2_with fail
    refine⟨⟨r+1,F',rfl,by omega,by rw[ak.out],by rw[aF.out];exact ch.out.le U,fun g O h=>by have:=b9.out g O;have:=(aS.out g h).2;omega,?_,Y.out,fun q' h1 S=>?_,ag.out.trans (ao.out.mono U),⟨ac.out.sp.trans (Spare.of_below (fun k=> ¬Z k) ao.out) (fun _ _ h=>h),fun k c h=>aL.bytes k c (ac.out.bytes k c h)⟩,bS.out⟩,by simp[intOf];omega⟩
    ·rw[bT.out];exact HS.out.keep (HS.out.next bs.out am.out) (ao.out.mono U) (fun k G=>ao.out.block k (aS.out k G).2) aL.bytes
    ·by_cases hq:q'=r
     ·subst hq;exact aM.out h1
     ·exact aV.out q' h1 (by omega)
end Go.Proofs.YthjoojnlnlmljaaGreat
