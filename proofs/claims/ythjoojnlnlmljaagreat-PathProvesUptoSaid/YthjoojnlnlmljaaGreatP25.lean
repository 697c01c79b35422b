/- A block's numbers lie in it: laid anew they give the block. Plain. No condition. -/
import Derived.Test.YthjoojnlnlmljaaGreatP22
import Derived.Test.YthjoojnlnlmljaaGreatP24
import Derived.Test.YthjoojnlnlmljaaGreatP04
import Derived.Test.YthjoojnlnlmljaaGreatP14
import Derived.Test.YthjoojnlnlmljaaGreatP17
import Derived.Test.YthjoojnlnlmljaaGreatP16
import Derived.Maps.AppendAt
set_option linter.all false
set_option maxRecDepth 100000
set_option maxHeartbeats 8000000
namespace Go.Proofs.YthjoojnlnlmljaaGreat
open Go.ChangeShapes Go.WideShapes Go.ChangeAt Go.RowKit Go.Joins Go.Shelf Go.Maps
open Go.Lib (hid)
theorem qfY {zs:List Int}(D: ∀z∈zs,0≤z∧z≤255)(p:Nat): ∀n,p+n≤zs.length→ ∀j,byt (Qi zs p n).toNat j=if j<n then qr zs (p+j) else 0
  | 0,_,j=>by simp[Qi,byt,z8]
  | n+1,h,j=>by
    have o:=qfY D p n (by omega) j;have O:=QL (zs:=zs) D (at_:=p) n (by omega);obtain⟨-,z1,z2⟩:=qX D (show p+n<zs.length by omega);obtain⟨z,r⟩: ∃z:Nat,qr zs (p+n)=z:=⟨(qr zs (p+n)).toNat,by omega⟩;obtain⟨a,G⟩: ∃a:Nat,Qi zs p n=a:=⟨(Qi zs p n).toNat,by omega⟩;have q:(2:Int)^(8*n)=((256^n:Nat):Int):=by
      rw[Int.pow_mul];norm_cast
    have I:a<256^n:=by
      have:=O.2;rw[G,q]at this;exact_mod_cast this
    have e:(Qi zs p (n+1)).toNat=a+z*256^n:=by
      rw[Qi,G,r,q,←Int.natCast_mul,←Int.natCast_add,Int.toNat_natCast]
    rw[G,Int.toNat_natCast]at o;rw[e];unfold byt z8 at o⊢;by_cases V:j<n
    · rw[if_pos V]at o
      rw[if_pos (by omega),←o];have J:256^n=256^j*(256*256^(n - j - 1)):=by
        rw[←Nat.pow_succ',←Nat.pow_add];congr 1;omega
      rw[J,show z*(256^j*(256*256^(n - j - 1)))=256^j*(256*(z*256^(n - j - 1))) by
        rw[Nat.mul_left_comm z,Nat.mul_left_comm z],Nat.add_mul_div_left _ _ (Nat.pow_pos (by omega)),Nat.add_mul_mod_self_left]
    · by_cases U:j=n
      · subst U
        rw[if_pos (by omega),Nat.add_mul_div_right _ _ (Nat.pow_pos (by omega)),Nat.div_eq_of_lt I,Nat.zero_add,r];have:z%256=z:=Nat.mod_eq_of_lt (by omega)
        rw[this]
      · rw[if_neg (by omega)]
        have:a+z*256^n<256^j:=by
          have Y:256^(n+1)≤256^j:=Nat.pow_le_pow_right (by omega) (by omega);have X:z*256^n≤255*256^n:=Nat.mul_le_mul_right _ (by omega);have Z:256^(n+1)=256*256^n:=Nat.pow_succ';omega
        rw[Nat.div_eq_of_lt this];rfl
theorem qcv {x:List Int}{j:Nat}(q:j<x.length):qr x j=if j<(Ya x).length then qr (Ya x) j else 0:=by
  have o:(Ya x).length=Ql x x.length:=by unfold Ya;have:=ZS x x.length;simp;omega
  rw[o];by_cases h:j<Ql x x.length
  · rw[if_pos h];unfold Ya qr;simp[Lg,List.getElem?_take,h]
  · rw[if_neg h];exact qa9 x _ _ (by omega) q
theorem Qw (big q:Bool)(v:Nat→Nat){k:Nat}(I:k+1≤9)(i:Nat):
    qr (QB big q v (k+1)) i=if ¬(k+1=7∧q=true)∧atB big (k+1)≤i∧i<atB big (k+1)+szB big (k+1) then byt (v (k+1)) (i - atB big (k+1)) else qr (QB big q v k) i:=by
  have D:=Q6 big false (k+1) (by omega) (by omega);have e:szE big false (k+1)=szB big (k+1):=by simp[szE]
  rw[e]at D;have G:32≤mB big:=by cases big<;>decide
  rw[QB];by_cases h:k+1=7∧q=true
  · rw[if_pos h,if_neg (fun o=>o.1 h)]
  · rw[if_neg h,Yz (by rw[qY,QU big q v k (by omega)];omega),qY]
    by_cases o:atB big (k+1)≤i∧i<atB big (k+1)+szB big (k+1)
    · rw[if_pos o,if_pos ⟨h,o⟩]
      simp[qr,qZ,Lg,show i - atB big (k+1)<szB big (k+1) by omega]
    · rw[if_neg o,if_neg (fun r=>o r.2)]
theorem jN (big o:Bool)(v:Nat→Nat)(i:Nat):qr (QB big o v 0) i=0:=by
  unfold QB qr;simp only[Lg,List.getElem?_replicate];split<;>rfl
theorem qhK {big ext:Bool}{zs:List Int}(J: ∀z∈zs,0≤z∧z≤255)(O:zs.length=mB big)(Y:big=true→ ∀i,18≤i→i<32→qr zs i=0)(hx:ext=true→xoZ big ext zs≠0){i:Nat}(G:i<2*sB big):
    qr (QB big (Yu big ext zs 7==0) (Yu big ext zs) 9) i=qr zs i:=by
  have Z: ∀f,1≤f→f≤9→ ¬(f=7∧ext=false)→Yu big ext zs f=(Qi zs (atB big f) (szE big ext f)).toNat:=fun f D r I=>by
    have:=JQ (big:=big) (ext:=ext) J O D r I;omega
  have o: ∀f j,1≤f→f≤9→ ¬(f=7∧ext=false)→byt (Yu big ext zs f) j=if j<szE big ext f then qr zs (atB big f+j) else 0:=fun f j D r I=>by
    rw[Z f D r I];have U:=Q6 big ext f D r;exact qfY J _ _ (by rw[O];cases big;(have:=U.2.2.2 rfl;show _≤32;omega);(show _≤64;omega)) j
  have X:(Yu big ext zs 7==0)= !ext:=by
    cases ext
    · rfl
    · have h7:((Yu big true zs 7:Nat):Int)=xoZ big true zs:=by
        rw[JQ J O (by omega) (by omega) (by simp)];cases big<;>rfl
      have:=hx rfl
      rw[Bool.not_true,beq_eq_false_iff_ne];omega
  rw[X];rw[Qw _ _ _ (k:=8) (by omega),Qw _ _ _ (k:=7) (by omega),Qw _ _ _ (k:=6) (by omega),Qw _ _ _ (k:=5) (by omega),Qw _ _ _ (k:=4) (by omega),Qw _ _ _ (k:=3) (by omega),Qw _ _ _ (k:=2) (by omega),Qw _ _ _ (k:=1) (by omega),Qw _ _ _ (k:=0) (by omega),jN];rw[o 9 _ (by omega) (by omega) (by omega),o 8 _ (by omega) (by omega) (by omega),o 6 _ (by omega) (by omega) (by omega),o 5 _ (by omega) (by omega) (by omega),o 4 _ (by omega) (by omega) (by omega),o 3 _ (by omega) (by omega) (by omega),o 2 _ (by omega) (by omega) (by omega),o 1 _ (by omega) (by omega) (by omega)]
  cases big
  · have G:i<16:=G
    rcases(show i=0∨i=1∨i=2∨i=3∨i=4∨i=5∨i=6∨i=7∨i=8∨i=9∨i=10∨i=11∨i=12∨i=13∨i=14∨i=15 by omega)with rfl|rfl|rfl|rfl|rfl|rfl|rfl|rfl|rfl|rfl|rfl|rfl|rfl|rfl|rfl|rfl<;>cases ext<;>simp[atB,szB,szE]<;>(rw[o 7 _ (by omega) (by omega) (by simp)];simp[atB,szB,szE])
  · have G:i<32:=G
    by_cases V:18≤i
    · rw[Y rfl i V G]
      have q: ∀f,1≤f→f≤9→ ¬(atB true f≤i∧i<atB true f+szB true f):=fun f D r I=>by
        have U:=Q6 true false f D r;rw[show szE true false f=szB true f by simp[szE]]at U;omega
      rw[if_neg (fun h=>q 9 (by omega) (by omega) h.2),if_neg (fun h=>q 8 (by omega) (by omega) h.2),if_neg (fun h=>q 7 (by omega) (by omega) h.2),if_neg (fun h=>q 6 (by omega) (by omega) h.2),if_neg (fun h=>q 5 (by omega) (by omega) h.2),if_neg (fun h=>q 4 (by omega) (by omega) h.2),if_neg (fun h=>q 3 (by omega) (by omega) h.2),if_neg (fun h=>q 2 (by omega) (by omega) h.2),if_neg (fun h=>q 1 (by omega) (by omega) h.2)]
    · rcases(show i=0∨i=1∨i=2∨i=3∨i=4∨i=5∨i=6∨i=7∨i=8∨i=9∨i=10∨i=11∨i=12∨i=13∨i=14∨i=15∨i=16∨i=17 by omega)with rfl|rfl|rfl|rfl|rfl|rfl|rfl|rfl|rfl|rfl|rfl|rfl|rfl|rfl|rfl|rfl|rfl|rfl<;>cases ext<;>simp[atB,szB,szE]<;>(rw[o 7 _ (by omega) (by omega) (by simp)];simp[atB,szB,szE])
theorem qhW {big ext:Bool}{zs:List Int}(hz: ∀z∈zs,0≤z∧z≤255)(h:okD big ext zs):Q4 big (Yu big ext zs) (YM big zs) (Y2 big zs)=zs:=by
  obtain⟨Y,hm,hx, -⟩:=h;have hM:mB big=4*sB big:=by cases big<;>rfl
  have D: ∀x:List Int,(Ya x).length≤x.length:=fun x=>by unfold Ya;rw[List.length_take];omega
  have e1:((zs.drop (2*sB big)).take (sB big)).length=sB big:=by simp;omega
  have e2:((zs.drop (3*sB big)).take (sB big)).length=sB big:=by simp;omega
  have l1:(YM big zs).length≤sB big:=Nat.le_trans (D _) (by omega);have l2:(Y2 big zs).length≤sB big:=Nat.le_trans (D _) (by omega);have hF:=QU big (Yu big ext zs 7==0) (Yu big ext zs) 9 (by omega);have V:=yq (big:=big) (v:=Yu big ext zs) l1 l2;have G: ∀i,2*sB big≤i→qr (QB big (Yu big ext zs 7==0) (Yu big ext zs) 9) i=0:=fun i hi=>by
    have J:16≤2*sB big∧(big=true→18≤2*sB big):=by cases big<;>decide
    have q: ∀f,1≤f→f≤9→ ¬(atB big f≤i∧i<atB big f+szB big f):=fun f U r X=>by
      have Z:=Q6 big false f U r;rw[show szE big false f=szB big f by simp[szE]]at Z
      cases big
      · have:=Z.2.2.2 rfl;omega
      · have:=J.2 rfl;omega
    rw[Qw _ _ _ (k:=8) (by omega),Qw _ _ _ (k:=7) (by omega),Qw _ _ _ (k:=6) (by omega),Qw _ _ _ (k:=5) (by omega),Qw _ _ _ (k:=4) (by omega),Qw _ _ _ (k:=3) (by omega),Qw _ _ _ (k:=2) (by omega),Qw _ _ _ (k:=1) (by omega),Qw _ _ _ (k:=0) (by omega),jN];rw[if_neg (fun h=>q 9 (by omega) (by omega) h.2),if_neg (fun h=>q 8 (by omega) (by omega) h.2),if_neg (fun h=>q 7 (by omega) (by omega) h.2),if_neg (fun h=>q 6 (by omega) (by omega) h.2),if_neg (fun h=>q 5 (by omega) (by omega) h.2),if_neg (fun h=>q 4 (by omega) (by omega) h.2),if_neg (fun h=>q 3 (by omega) (by omega) h.2),if_neg (fun h=>q 2 (by omega) (by omega) h.2),if_neg (fun h=>q 1 (by omega) (by omega) h.2)]
  have key: ∀i,i<mB big→qr (Q4 big (Yu big ext zs) (YM big zs) (Y2 big zs)) i=qr zs i:=fun i hi=>by
    have aa:(Qj (QB big (Yu big ext zs 7==0) (Yu big ext zs) 9) (2*sB big) (YM big zs)).length=mB big:=by rw[Qm (by omega),hF]
    unfold Q4;rw[Yz (by omega),Yz (by omega)];by_cases X:3*sB big≤i
    · have I:i - 3*sB big<((zs.drop (3*sB big)).take (sB big)).length:=by omega
      have o:=qcv I;rw[qbx (by omega),show 3*sB big+(i - 3*sB big)=i by omega]at o;by_cases O:i<3*sB big+(Y2 big zs).length
      · rw[if_pos ⟨X,O⟩];rw[if_pos (by show _<(Y2 big zs).length;omega)]at o;exact o.symm
      · rw[if_neg (by omega),if_neg (by omega),G i (by omega)];rw[if_neg (by show ¬_<(Y2 big zs).length;omega)]at o;exact o.symm
    · rw[if_neg (by omega)]
      by_cases r:2*sB big≤i
      · have I:i - 2*sB big<((zs.drop (2*sB big)).take (sB big)).length:=by omega
        have o:=qcv I;rw[qbx (by omega),show 2*sB big+(i - 2*sB big)=i by omega]at o;by_cases O:i<2*sB big+(YM big zs).length
        · rw[if_pos ⟨r,O⟩];rw[if_pos (by show _<(YM big zs).length;omega)]at o;exact o.symm
        · rw[if_neg (by omega),G i (by omega)];rw[if_neg (by show ¬_<(YM big zs).length;omega)]at o;exact o.symm
      · rw[if_neg (by omega)];exact qhK hz Y hm hx (by omega)
  apply List.ext_getElem (by rw[V,Y])
  intro i U r;have:=key i (by omega)
  simpa [qr,Lg,U,r] using this
theorem JT {big:Bool}{v:Nat→Nat}{z1 z2:List Int}(r:z1.length≤sB big)(q:z2.length≤sB big){i:Nat}(D:i<2*sB big):qr (Q4 big v z1 z2) i=qr (QB big (v 7==0) v 9) i:=by
 have e:=QU big (v 7==0) v 9 (by omega);have o:4*sB big=mB big:=by cases big<;>decide
 unfold Q4;rw[Yz (by rw[Qm (by omega)];omega),if_neg (by omega),Yz (by omega),if_neg (by omega)]
theorem qP {big o:Bool}{v:Nat→Nat}(k:Nat){i:Nat}(r:k+1≤9)(h: ¬(atB big (k+1)≤i∧i<atB big (k+1)+szB big (k+1))):qr (QB big o v (k+1)) i=qr (QB big o v k) i:=by
 rw[Qw big o v r i,if_neg (fun q=>h q.2)]
theorem JO {big o:Bool}{v:Nat→Nat}(k:Nat){i:Nat}(q:k+1≤9)(D:k+1≠7)(h:atB big (k+1)=i):qr (QB big o v (k+1)) i=byt (v (k+1)) 0:=by
 have G:1≤szB big (k+1):=by
  have:=Q6 big false (k+1) (by omega) q
  simpa [szE] using this.1
 rw[Qw big o v q i,if_pos ⟨fun r=>D r.1,by omega,by omega⟩,←h,Nat.sub_self]
theorem jP {x:Nat}(h:x≤255):byt x 0=(x:Int):=by
 have:=zW x 0
 simp at this
 omega
theorem qiu {big:Bool}{v:Nat→Nat}{z1 z2:List Int}(U:ParOk big v)(r:z1.length≤sB big)(q:z2.length≤sB big):okD big false (Q4 big v z1 z2)∧qr (Q4 big v z1 z2) 1=(v 2:Nat):=by
 have hs:8≤sB big:=by cases big<;>decide
 have hm:mB big≤64:=by cases big<;>decide
 obtain⟨Z,X,p3,I, -,p6,p7⟩:=U.p;have V:qr (Q4 big v z1 z2) 0=(v 1:Nat):=by
  rw[JT r q (by omega),qP 8 (by omega) (by cases big<;>decide),qP 7 (by omega) (by cases big<;>decide),qP 6 (by omega) (by cases big<;>decide),qP 5 (by omega) (by cases big<;>decide),qP 4 (by omega) (by cases big<;>decide),
   qP 3 (by omega) (by cases big<;>decide),qP 2 (by omega) (by cases big<;>decide),qP 1 (by omega) (by cases big<;>decide),JO 0 (by omega) (by omega) (by cases big<;>rfl)]
  exact jP (x:=v 1) (by omega)
 have G:qr (Q4 big v z1 z2) 1=(v 2:Nat):=by
  rw[JT r q (by omega),qP 8 (by omega) (by cases big<;>decide),qP 7 (by omega) (by cases big<;>decide),qP 6 (by omega) (by cases big<;>decide),qP 5 (by omega) (by cases big<;>decide),qP 4 (by omega) (by cases big<;>decide),
   qP 3 (by omega) (by cases big<;>decide),qP 2 (by omega) (by cases big<;>decide),JO 1 (by omega) (by omega) (by cases big<;>rfl)]
  exact jP (x:=v 2) (by omega)
 have J:qr (Q4 big v z1 z2) 3=(v 4:Nat):=by
  rw[JT r q (by omega),qP 8 (by omega) (by cases big<;>decide),qP 7 (by omega) (by cases big<;>decide),qP 6 (by omega) (by cases big<;>decide),qP 5 (by omega) (by cases big<;>decide),qP 4 (by omega) (by cases big<;>decide),
   JO 3 (by omega) (by omega) (by cases big<;>rfl)]
  exact jP (x:=v 4) (by omega)
 have h9:atB big 9<2*sB big:=by cases big<;>decide
 have g9:qr (Q4 big v z1 z2) (atB big 9)=(v 9:Nat):=by
  rw[JT r q h9,JO 8 (by omega) (by omega) rfl];exact jP (x:=v 9) (by omega)
 refine⟨⟨yq r q,fun O i i1 Y=>?_,fun h=>(by cases h),?_⟩,G⟩
 ·subst O;have D:i<2*sB true:=Y;have o: ∀k,k<9→ ¬(atB true (k+1)≤i∧i<atB true (k+1)+szB true (k+1)):=fun k hk h=>by
   have:atB true (k+1)+szB true (k+1)≤18:=by
    rcases(show k=0∨k=1∨k=2∨k=3∨k=4∨k=5∨k=6∨k=7∨k=8 by omega)with rfl|rfl|rfl|rfl|rfl|rfl|rfl|rfl|rfl<;>decide
   omega
  rw[JT r q D,qP 8 (by omega) (o 8 (by omega)),qP 7 (by omega) (o 7 (by omega)),qP 6 (by omega) (o 6 (by omega)),qP 5 (by omega) (o 5 (by omega)),qP 4 (by omega) (o 4 (by omega)),qP 3 (by omega) (o 3 (by omega)),
   qP 2 (by omega) (o 2 (by omega)),qP 1 (by omega) (o 1 (by omega)),qP 0 (by omega) (o 0 (by omega)),jN]
 ·rw[V,G,J,g9];exact⟨Z,X,fun _=>I.1,p7⟩
end Go.Proofs.YthjoojnlnlmljaaGreat
namespace Go.Proofs.YthjoojnlnlmljaaGreat
open Go.ChangeShapes Go.WideShapes Go.ChangeAt Go.RowKit Go.Joins Go.Shelf Go.Maps
open Go.Lib (hid)
attribute [local go_sem] Oper.semAt_some
theorem qgs {zs:List Int}{i p n:Nat}(h:i<n):qr ((zs.drop p).take n) i=qr zs (p+i):=by
 unfold qr;simp[Lg,List.getElem?_take,h,List.getElem?_drop]
theorem qah {w w':World}{a:Option Addr}{n c:Nat}{zs:List Int}(h:Hold w (.slice a n c) zs)(r:Below w.heap.size w w'){j:Nat}(o:j<zs.length): ∃b off,a=some ⟨b,off,none⟩∧b<w'.heap.size∧w'.cell? ⟨b,off+j,none⟩=some (.int .u8 (qr zs j))∧0≤qr zs j∧qr zs j≤255:=by
 have q:zs≠[]:=fun e=>by rw[e]at o;simp at o
 rcases h.2 with⟨G, -⟩|⟨U,O,e, -, -,I⟩
 ·exact absurd G q
 ·obtain⟨b,off,rfl,D,J⟩:=I.resolve_left q;simp only[Value.slice.injEq]at e;exact⟨b,off,e.1,Nat.lt_of_lt_of_le D r.size,(r.cell (p:=⟨b,off+j,none⟩) D).trans (J j o),(qX h.1 o).2⟩
theorem jB (o n:Nat)(h:o+n<9223372036854775808)(w:World):
  Calls Tryz.prog 177 #[.int .u64 (o:Nat),.int .u64 0,.int .u64 (n:Nat)] w fun e w'=>e= .returned (.tuple #[.int .u64 ((o+n:Nat):Int),.int .u64 0,.bool false])∧w'=w:=by
 have r:IntKind.u64.wrap ((o:Int)+n)=(o:Int)+n:=u64_wrap_id _ (by omega) (by omega);have D: ¬((o:Int)+n<o):=by omega
 have q:(o:Int)≤(o:Int)+n:=by omega
 rw[Int.natCast_add];clear h;go_enter Tryz.func177,Tryz.ntmps177
 go_wp2
 exact Bp (results_tmp3 (fn:=Tryz.f177) (t:=6) (u:=7) (v:=8) rfl _ _ _) rfl ⟨rfl,rfl⟩
theorem JG {n:Nat}{x:List Int}{j:Nat}(r:j<n)(o:x.length≤n):(QH n x).take (j+1)=(QH n x).take j++[if j<x.length then qr x j else 0]:=by
 have q:=QM o;rw[ju (zs:=QH n x) (by omega)];congr 2
 unfold QH qr;simp only[Lg];by_cases h:j<x.length
 ·rw[if_pos h,List.getElem?_append_left h]
 ·rw[if_neg h,List.getElem?_append_right (by omega),List.getElem?_replicate,if_pos (by omega)];rfl
theorem jA (zs:List Int)(v:Value)(p n:Nat)(w:World)(h:Hold w v zs)(hn:n≤65535)(hp:p≤zs.length)(hm:(zs.length:Int)≤281474976710656):
  Calls Tryz.prog 180 #[v,.int .i64 (p:Nat),.int .i64 (n:Nat)] w fun e w'=> ∃v',e= .returned v'∧w'.ownsRow w.heap.size 5 1 v' n ((QH n ((zs.drop p).take n)).map qt)∧Below w.heap.size w w':=by
 obtain⟨i0,hi,ac,ad,aa⟩:=info_parts Qr;obtain⟨a,ar,rfl,aq,au⟩:=h.slice;have HH:=hid h;obtain⟨X,Y⟩:=Ex ((zs.drop p).take n);have ag:X.length=min n (zs.length - p):=by rw[←Y];simp
 have af: ∀j,j<X.length→qr X j=qr zs (p+j):=fun j hj=>by rw[←Y];exact qgs (by omega)
 have Z:=QM (n:=n) (zs:=X) (by omega);rw[Y];have O:=hid ag;have ai:=hid af;have al:=hid Z;clear h Y ag af Z;go_enter Tryz.func180,Tryz.ntmps180
 go_wp2_with fail
 go_loopw [7,8] (fun b i wr=> ∃j:Nat,i= .int .i64 (j:Nat)∧j≤n∧wr.ownsRow w.heap.size 5 1 b j (((QH n X).take j).map qt)∧Below w.heap.size w wr) (fun _ i _=>n - (intOf i).toNat)
 case atStart=>exact⟨0,rfl,Nat.zero_le _,by simpa using Wo w w.heap.size 5 1,Below.refl _ _⟩
 case round=>
  obtain⟨j,rfl,hj,D,J⟩:=hrel;have q:=hid J;have U:=hid D;obtain⟨a1,n1,c1,rfl⟩:=qs D;by_cases am:j<n
  case neg=>
   obtain rfl:j=n:=by omega
   clear D J;go_wp2
   go_ret
   refine⟨_,rfl,?_,q.out⟩;have:=U.out
   rwa[List.take_of_length_le (by rw[al.out];exact Nat.le_refl _)]at this
  have ab:=JG (x:=X) am (by have:=O.out;omega);have I:=hid ab;clear ab D;by_cases ak:p+j<zs.length
  case pos=>
   have ae:j<X.length:=by have:=O.out;omega
   have G:=I.out;rw[if_pos ae,ai.out j ae]at G;have HZ:=hid G;obtain⟨bb,ap,rfl,q1,q2,q3,q4⟩:=qah HH.out J ak;have aj:(p:Int)+j<zs.length:=by omega
   have ah:0≤(p:Int)+j∧(p:Int)+j<9223372036854775808:=by omega
   obtain⟨ao,an⟩:=ah;generalize qr zs (p+j)=z at*;clear J G I;go_wp2_with (at_builtin;refine wpList_append_own _ rfl _ _ 24 rfl w.heap.size 5 i0 (.int .u8 0) 1 1 Tryz.underlying24 hi ac ad aa rfl (by decide) _ _ _ rfl (U.out.alloc _) ⟨wr.heap.size,0,none⟩ 1 1 [.int .u8 z] rfl rfl (cell_one_new _ _ _) (by simp[Value.oneCell']) (by unfold maxLen;omega) (by omega) (by simp;have:=q.out.size;omega) ?_;intro v' w6 r o _;have V:Below w.heap.size w w6:=(q.out.alloc q.out.size _).grown o (by simp;have:=q.out.size;omega) (fun k e=>(U.out.lt k e).1))
   refine⟨⟨j+1,rfl,by omega,by rw[HZ.out,List.map_append];exact r,V⟩,by simp[intOf];omega⟩
  have G:=I.out;rw[if_neg (by have:=O.out;omega)]at G;have HZ:=hid G;have aj: ¬((p:Int)+j<zs.length):=by omega
  clear J G I;go_wp2_with (at_builtin;refine wpList_append_own _ rfl _ _ 24 rfl w.heap.size 5 i0 (.int .u8 0) 1 1 Tryz.underlying24 hi ac ad aa rfl (by decide) _ _ _ rfl (U.out.alloc _) ⟨wr.heap.size,0,none⟩ 1 1 [.int .u8 0] rfl rfl (cell_one_new _ _ _) (by simp[Value.oneCell']) (by unfold maxLen;omega) (by omega) (by simp;have:=q.out.size;omega) ?_;intro v' w6 r o _;have V:Below w.heap.size w w6:=(q.out.alloc q.out.size _).grown o (by simp;have:=q.out.size;omega) (fun k e=>(U.out.lt k e).1))
  refine⟨⟨j+1,rfl,by omega,by rw[HZ.out,List.map_append];exact r,V⟩,by simp[intOf];omega⟩
theorem qdR (big:Bool)(zs:List Int)(v:Value)(w:World)(h:Hold w v zs)(hk:zs.length≤mB big):
  Calls Tryz.prog 175 #[.int .i64 (kB big),v] w fun e w'=> ∃v',e= .returned v'∧w'.ownsRow w.heap.size 5 1 v' (yv (bB big) zs).length ((yv (bB big) zs).map qt)∧Below w.heap.size w w':=by
 obtain⟨i0,hi,ad,ae,ab⟩:=info_parts Qr;obtain⟨a,ap,rfl,ao,aq⟩:=h.slice;have O:mB big≤bB big∧bB big≤128:=by cases big<;>decide
 obtain⟨n,hn⟩:=Ex (bB big);have J:=hid (fun(W:World)=>Y0 big W);rw[hn]at J O⊢;have HH:=hid h;have ah:=hid O;by_cases h0:zs.length=0
 case pos=>
  have e:yv n zs=[]:=by unfold yv;rw[if_pos h0]
  rw[e];obtain rfl:zs=[]:=List.eq_nil_of_length_eq_zero h0;clear O h hn hk;go_enter Tryz.func175,Tryz.ntmps175
  go_wp2
  go_ret
  exact⟨_,rfl,Wo _ _ _ _,Below.refl _ _⟩
 have e:yv n zs=QH n zs:=by unfold yv;rw[if_neg h0]
 have V:=QM (n:=n) (zs:=zs) (by omega);rw[e,V];have ag:=hid V;have aj:0<zs.length:=by omega
 have ak:((zs.length:Int)==0)=false:=beq_eq_false_iff_ne.2 (by omega);have am:(zs.length:Int)≤128:=by omega
 have an:(n:Int)≤128:=by omega
 have HK:=hid hk;clear h V e h0 O hn hk;go_enter Tryz.func175,Tryz.ntmps175
 go_wp2_with fail
 go_loopw [5,6] (fun b i wr=> ∃j:Nat,i= .int .i64 (j:Nat)∧j≤n∧wr.ownsRow w.heap.size 5 1 b j (((QH n zs).take j).map qt)∧Below w.heap.size w wr) (fun _ i _=>n - (intOf i).toNat)
 case atStart=>exact⟨0,rfl,Nat.zero_le _,by simpa using Wo w w.heap.size 5 1,Below.refl _ _⟩
 case round=>
  obtain⟨j,rfl,hj,D,X⟩:=hrel;have q:=hid X;have Z:=hid D;obtain⟨a1,n1,c1,rfl⟩:=qs D;by_cases ai:j<n
  case neg=>
   obtain rfl:j=n:=by omega
   clear D X;go_wp2_with fail
   refine(J.out _).mono ?_;rintro e w4 ⟨rfl,G⟩;rw[G];clear G;go_wp2
   go_ret
   refine⟨_,rfl,?_,q.out⟩;have:=Z.out
   rwa[List.take_of_length_le (by rw[ag.out];exact Nat.le_refl _)]at this
  have ac:=JG (x:=zs) ai (by have:=ah.out;have:=HK.out;omega);have U:=hid ac;have ar:(j:Int)<n:=by omega
  clear ac D;by_cases Y:j<zs.length
  case pos=>
   have I:=U.out;rw[if_pos Y]at I;have HZ:=hid I;obtain⟨bb,al,rfl,q1,q2,q3,q4⟩:=qah HH.out X Y;have af:(j:Int)<zs.length:=by omega
   generalize qr zs j=z at*;clear X I U;go_wp2_with fail
   refine(J.out _).mono ?_;rintro e w4 ⟨rfl,G⟩;rw[G];clear G;go_wp2_with (at_builtin;refine wpList_append_own _ rfl _ _ 24 rfl w.heap.size 5 i0 (.int .u8 0) 1 1 Tryz.underlying24 hi ad ae ab rfl (by decide) _ _ _ rfl (Z.out.alloc _) ⟨wr.heap.size,0,none⟩ 1 1 [.int .u8 z] rfl rfl (cell_one_new _ _ _) (by simp[Value.oneCell']) (by unfold maxLen;omega) (by omega) (by simp;have:=q.out.size;omega) ?_;intro v' w6 r o _;have aa:Below w.heap.size w w6:=(q.out.alloc q.out.size _).grown o (by simp;have:=q.out.size;omega) (fun k e=>(Z.out.lt k e).1))
   refine⟨⟨j+1,rfl,by omega,by rw[HZ.out,List.map_append];exact r,aa⟩,by simp[intOf];omega⟩
  have I:=U.out;rw[if_neg Y]at I;have HZ:=hid I;have af: ¬((j:Int)<zs.length):=by omega
  clear X I U;go_wp2_with fail
  refine(J.out _).mono ?_;rintro e w4 ⟨rfl,G⟩;rw[G];clear G;go_wp2_with (at_builtin;refine wpList_append_own _ rfl _ _ 24 rfl w.heap.size 5 i0 (.int .u8 0) 1 1 Tryz.underlying24 hi ad ae ab rfl (by decide) _ _ _ rfl (Z.out.alloc _) ⟨wr.heap.size,0,none⟩ 1 1 [.int .u8 0] rfl rfl (cell_one_new _ _ _) (by simp[Value.oneCell']) (by unfold maxLen;omega) (by omega) (by simp;have:=q.out.size;omega) ?_;intro v' w6 r o _;have aa:Below w.heap.size w w6:=(q.out.alloc q.out.size _).grown o (by simp;have:=q.out.size;omega) (fun k e=>(Z.out.lt k e).1))
  refine⟨⟨j+1,rfl,by omega,by rw[HZ.out,List.map_append];exact r,aa⟩,by simp[intOf];omega⟩
def qL (h:List Int):List Int:=h++List.replicate 8 0
theorem Qb {N:Nat}(r:N≤64){h:List Int}(q:Words N 8 h):Words 64 16 (qL h):=by
 refine⟨by simp[qL,q.1],fun z o=>?_⟩;rcases List.mem_append.1 o with o|o
 ·have:=q.2 z o
  have D:(2:Int)^N≤2^64:=by exact_mod_cast Nat.pow_le_pow_right (by omega) r
  omega
 ·rw[List.eq_of_mem_replicate o];decide
theorem qaY {h:List Int}(o:h.length=8){j:Nat}(q:j<8):wd (qL h) j=wd h j:=by
 unfold wd qL;simp[Lg,List.getElem?_append_left (show j<h.length by omega)]
def Qv (h b:List Int)(j:Nat):List Int:=h.take j++b.drop j
theorem zr {h b:List Int}{j:Nat}(o:j<h.length)(G:j<b.length):(Qv h b j).set j (wd h j)=Qv h b (j+1):=by
 have r:h.take (j+1)=h.take j++[wd h j]:=by
  rw[List.take_succ_eq_append_getElem o];simp[wd,Lg,o]
 have D:b.drop j=b[j]::b.drop (j+1):=List.drop_eq_getElem_cons G;have q:(h.take j).length=j:=by simp;omega
 unfold Qv;rw[r,D,List.set_append_right _ _ (by omega),q,Nat.sub_self,List.set_cons_zero];simp
theorem yZ {h b:List Int}{j:Nat}(q:j≤h.length)(o:j≤b.length):(Qv h b j).length=b.length:=by simp[Qv];omega
theorem Ym {k:IntKind}{L:List Int}{j:Nat}(o:j<L.length):(qj k L)[j]? =some (.int k (wd L j)):=by
 simp[qj,wd,Lg,o]
theorem Holds8.mono_below' {w w':World}{v:Value}{zs:List Int}{B:Nat}(h:Holds8 w v zs)(o:Below B w w')(q:w.heap.size≤B):Holds8 w' v zs:=qS h (o.mono q)
def Z8:List Int:=List.replicate 8 0
theorem JN {R h:List Int}(q:R.length=8)(o:h.length=8):Qv R (qL h) 8=qL R:=by
 unfold Qv qL;rw[List.take_of_length_le (by omega),List.drop_append_of_le_length (by omega),List.drop_of_length_le (by omega),List.nil_append]
theorem qbp (h bs:List Int)(hh:Words 64 8 h)(v:Value)(lo:Nat)(aq:(lo:Int)<9223372036854775808)(O node:Bool)(w:World)(hH:Holds8 w v bs)(hz: ∀z∈bs,0≤z∧z≤255)(hl:bs.length=128):
  Calls Tryz.prog 179 #[.int .i64 1,.agg (qj .u64 (qL h)),v,.int .u64 (lo:Nat),.int .u64 0,.bool O,.bool node] w fun e w'=>e= .returned (.agg (qj .u64 (qL (yD true h bs (lo:Nat) O node))))∧Below w.heap.size w w':=by
 obtain⟨o,D⟩:=Ex w.heap.size;have ah:=yi 8 16 hz (by rw[hl]);obtain⟨M,hM⟩:=Ex (QZ 8 16 bs);obtain⟨R,hR⟩:=Ex (yD true h bs (lo:Nat) O node);have ar:Words 64 8 R:=by rw[←hR];exact QV true hh _ _ _ _
 have av:zV mixBig IVb 12 h M (lo:Nat) 0 O node=R:=by rw[←hR,←hM];rfl
 rw[hR];rw[hM]at ah;have al:=Qb (by decide) hh;have ao: ∀j,j<8→wd (qL h) j=wd h j:=fun j hj=>qaY hh.1 hj
 have aO:=hid hM;have aE:=hid av;have aN:=hid hl;have aP:=hid aq;have ab:=hid ah;have r:=hid ar;have I:=hid hh;have ac:=hid al;have aC:=hid ao;have aM:=hid hz;have aF:=hid hH;clear hM hR av hl aq ah ar ao al hz hH hh;go_enter Tryz.func179,Tryz.ntmps179
 go_wp2_with fail
 have aQ:(((w.alloc (.cells (qj .u64 (qL h)) 252)).alloc (.cells #[.int .u64 0,.int .u64 0,.int .u64 0,.int .u64 0,.int .u64 0,.int .u64 0,.int .u64 0,.int .u64 0,.int .u64 0,.int .u64 0,.int .u64 0,.int .u64 0,.int .u64 0,.int .u64 0,.int .u64 0,.int .u64 0] 252)).alloc (.cells (qj .u64 Z8) 274)).heap.size=o+3:=by simp[D]
 have r0:(((w.alloc (.cells (qj .u64 (qL h)) 252)).alloc (.cells #[.int .u64 0,.int .u64 0,.int .u64 0,.int .u64 0,.int .u64 0,.int .u64 0,.int .u64 0,.int .u64 0,.int .u64 0,.int .u64 0,.int .u64 0,.int .u64 0,.int .u64 0,.int .u64 0,.int .u64 0,.int .u64 0] 252)).alloc (.cells (qj .u64 Z8) 274)).heap[o]? =some (.cells (qj .u64 (qL h)) 252 (0,0)):=by
  rw[Bh _ _ _ (by simp[D];omega),Bh _ _ _ (by simp[D]),←D];exact Wn _ _
 have r1:(((w.alloc (.cells (qj .u64 (qL h)) 252)).alloc (.cells #[.int .u64 0,.int .u64 0,.int .u64 0,.int .u64 0,.int .u64 0,.int .u64 0,.int .u64 0,.int .u64 0,.int .u64 0,.int .u64 0,.int .u64 0,.int .u64 0,.int .u64 0,.int .u64 0,.int .u64 0,.int .u64 0] 252)).alloc (.cells (qj .u64 Z8) 274)).heap[o+1]? =some (.cells #[.int .u64 0,.int .u64 0,.int .u64 0,.int .u64 0,.int .u64 0,.int .u64 0,.int .u64 0,.int .u64 0,.int .u64 0,.int .u64 0,.int .u64 0,.int .u64 0,.int .u64 0,.int .u64 0,.int .u64 0,.int .u64 0] 252 (0,0)):=by
  rw[Bh _ _ _ (by simp[D]),show o+1=(w.alloc (.cells (qj .u64 (qL h)) 252)).heap.size by simp[D]];exact Wn _ _
 have r2:(((w.alloc (.cells (qj .u64 (qL h)) 252)).alloc (.cells #[.int .u64 0,.int .u64 0,.int .u64 0,.int .u64 0,.int .u64 0,.int .u64 0,.int .u64 0,.int .u64 0,.int .u64 0,.int .u64 0,.int .u64 0,.int .u64 0,.int .u64 0,.int .u64 0,.int .u64 0,.int .u64 0] 252)).alloc (.cells (qj .u64 Z8) 274)).heap[o+1+1]? =some (.cells (qj .u64 (Qv h Z8 0)) 274 (0,0)):=by
  rw[show o+1+1=((w.alloc (.cells (qj .u64 (qL h)) 252)).alloc (.cells #[.int .u64 0,.int .u64 0,.int .u64 0,.int .u64 0,.int .u64 0,.int .u64 0,.int .u64 0,.int .u64 0,.int .u64 0,.int .u64 0,.int .u64 0,.int .u64 0,.int .u64 0,.int .u64 0,.int .u64 0,.int .u64 0] 252)).heap.size by simp[D]];exact Wn _ _
 have ax:Below o w (((w.alloc (.cells (qj .u64 (qL h)) 252)).alloc (.cells #[.int .u64 0,.int .u64 0,.int .u64 0,.int .u64 0,.int .u64 0,.int .u64 0,.int .u64 0,.int .u64 0,.int .u64 0,.int .u64 0,.int .u64 0,.int .u64 0,.int .u64 0,.int .u64 0,.int .u64 0,.int .u64 0] 252)).alloc (.cells (qj .u64 Z8) 274)):=by rw[←D];exact((Br.alloc Nl _).alloc (by simp) _).alloc (by simp;omega) _
 change Code.wp _ _ _ _ (((w.alloc (.cells (qj .u64 (qL h)) 252)).alloc (.cells #[.int .u64 0,.int .u64 0,.int .u64 0,.int .u64 0,.int .u64 0,.int .u64 0,.int .u64 0,.int .u64 0,.int .u64 0,.int .u64 0,.int .u64 0,.int .u64 0,.int .u64 0,.int .u64 0,.int .u64 0,.int .u64 0] 252)).alloc (.cells (qj .u64 Z8) 274))
 generalize (((w.alloc (.cells (qj .u64 (qL h)) 252)).alloc (.cells #[.int .u64 0,.int .u64 0,.int .u64 0,.int .u64 0,.int .u64 0,.int .u64 0,.int .u64 0,.int .u64 0,.int .u64 0,.int .u64 0,.int .u64 0,.int .u64 0,.int .u64 0,.int .u64 0,.int .u64 0,.int .u64 0] 252)).alloc (.cells (qj .u64 Z8) 274))=W3 at*;have R0:=hid r0;have R1:=hid r1;have R2:=hid r2;have ai:=hid ax;clear r0 r1 r2 ax;go_loopw [16] (fun i wr=> ∃j:Nat,i= .int .i64 (j:Nat)∧j≤8∧wr.heap[o+1+1]? =some (.cells (qj .u64 (Qv h Z8 j)) 274 (0,0))∧But (o+1+1) W3 wr) (fun i _=>8 - (intOf i).toNat)
 case atStart=>exact⟨0,rfl,by omega,R2.out,But.refl _ _⟩
 case round=>
  obtain⟨j,rfl,hj,q,G⟩:=hrel;have J:=hid q;have HB:=hid G;have ae:o+3≤wr.heap.size:=by have:=G.size;omega
  by_cases X:j<8
  case pos=>
   have c0:wr.cell? ⟨o,j,none⟩=some (.int .u64 (wd h j)):=by
    rw[qd ((G.block o (by omega) (by omega)).trans R0.out) j,Ym (by rw[ac.out.1];omega),aC.out j X]
   have af:(Qv h Z8 j).length=8:=yZ (by rw[I.out.1];omega) (by show j≤8;omega);have c1:wr.cell? ⟨o+1+1,j,none⟩=some (.int .u64 (wd (Qv h Z8 j) j)):=by rw[qd q j,Ym (by omega)]
   have f1:=frozen_of_row wr (o+1+1) j _ _ q;have U:=heap_setCell_same wr (o+1+1) j _ _ (.int .u64 (wd h j)) q;rw[Qe,zr (by rw[I.out.1];omega) (by show j<8;omega)]at U;have ag:=yy I.out X;have ak:=hid U;have aG:(j:Int)<8:=by omega
   generalize wd (Qv h Z8 j) j=zo at c1;generalize wd h j=zj at*;obtain⟨aB,aD⟩:=ag;clear U af q G;go_wp2
   exact⟨⟨j+1,rfl,by omega,ak.out,HB.out.set _ _⟩,by simp[intOf];omega⟩
  obtain rfl:j=8:=by omega
  rw[show Qv h Z8 8=h by unfold Qv;rw[List.take_of_length_le (by rw[I.out.1];omega)];simp[Z8]]at J;have aw:=aF.out.mono_below' (ai.out.trans (G.below (by omega) (by omega))) (by omega);have ay:=hid aw;clear q G aw hj X;go_wp2_with fail
  refine(qb1 bs v _ ay.out aM.out aN.out).mono ?_;rintro e w1 ⟨rfl,Z⟩;rw[aO.out];have aH:=Z.size;have k0:=qg ((HB.out.block o (by omega) (by omega)).trans R0.out) Z;have k1:=qg ((HB.out.block (o+1) (by omega) (by omega)).trans R1.out) Z;have k2:=qg J.out Z;have az:Below o w w1:=(ai.out.trans (HB.out.below (by omega) (by omega))).trans (Z.mono (by omega));have K0:=hid k0;have K1:=hid k1;have K2:=hid k2;have au:=hid az;clear k0 k1 k2 az Z HB J R0 R1 R2 ai ay;go_upto_region 8 with((with_reducible show wpList _ _ _ (Oper.mk none (Op.store 252 _ _) _ _ _ _::_) _ _);refine wpList_store_row rfl 252 _ _ rfl w1.heap.size (qj .u64 M) rfl rfl 252 _ (Wn _ _) (by rw[qf,ab.out.1];kernel_rfl) (by rw[qf,ab.out.1];rfl) qy ?_)
  refine qn ?_;intro W hW;obtain⟨bv,ad⟩:=Ex w1.heap.size;have g0:W.heap[o]? =some (.cells (qj .u64 (qL h)) 252 (0,0)):=by rw[hW];exact(setRow_other (w1.alloc _) _ _ _ (by omega)).trans ((Bh _ _ _ (by omega)).trans K0.out)
  have g1:W.heap[o+1]? =some (.cells #[.int .u64 0,.int .u64 0,.int .u64 0,.int .u64 0,.int .u64 0,.int .u64 0,.int .u64 0,.int .u64 0,.int .u64 0,.int .u64 0,.int .u64 0,.int .u64 0,.int .u64 0,.int .u64 0,.int .u64 0,.int .u64 0] 252 (0,0)):=by rw[hW];exact(setRow_other (w1.alloc _) _ _ _ (by omega)).trans ((Bh _ _ _ (by omega)).trans K1.out)
  have g2:W.heap[o+1+1]? =some (.cells (qj .u64 h) 274 (0,0)):=by rw[hW];exact(setRow_other (w1.alloc _) _ _ _ (by omega)).trans ((Bh _ _ _ (by omega)).trans K2.out)
  have g3:W.heap[bv]? =some (.cells (qj .u64 M) 252 (0,0)):=by rw[hW,←ad];exact setRow_heap _ _ _ _ _ _ (Wn _ _)
  have am:Below o w W:=by rw[hW];exact below_setRow (au.out.alloc (by omega) _) (by omega) _
  rw[ad];have aA:o+3≤bv:=by omega
  clear hW ad K0 K1 K2 au aH ae;go_wp2_with (first|((with_reducible show wpList _ _ _ (Oper.mk (some 41) _ _ _ _ _::_) _ _);refine wpList_load_row rfl 274 _ rfl (o+1+1) rfl _ _ _ _ g2 Tryz.underlying274 rfl (by rw[qf,I.out.1];kernel_rfl) ?_)|((with_reducible show wpList _ _ _ (Oper.mk (some 42) _ _ _ _ _::_) _ _);refine wpList_load_row rfl 252 _ rfl bv rfl _ _ _ _ g3 Tryz.underlying252 rfl (by rw[qf,ab.out.1];kernel_rfl) ?_))
  refine(qiT h M I.out ab.out (lo:Nat) 0 O node _).mono ?_;rintro e w2 ⟨rfl,V⟩;rw[aE.out];have aI:=V.size;have aL:=(Ai g3).1;have j0:=qg g0 V;have j1:=qg g1 V;have j2:=qg g2 V;have ap:Below o w w2:=am.trans (V.mono (by omega));clear g0 g1 g2 g3 am V;go_upto_region 9 with((with_reducible show wpList _ _ _ (Oper.mk none (Op.store 274 _ _) _ _ _ _::_) _ _);refine wpList_store_row rfl 274 _ _ rfl (o+1+1) (qj .u64 R) rfl rfl 274 _ j2 (by rw[qf,r.out.1];kernel_rfl) (by rw[qf,qf,r.out.1,I.out.1]) qy ?_)
  refine qn ?_;intro W7 Y;have m0:W7.heap[o]? =some (.cells (qj .u64 (Qv R (qL h) 0)) 252 (0,0)):=by rw[Y];exact(setRow_other w2 _ _ _ (by omega)).trans j0
  have m1:W7.heap[o+1]? =some (.cells #[.int .u64 0,.int .u64 0,.int .u64 0,.int .u64 0,.int .u64 0,.int .u64 0,.int .u64 0,.int .u64 0,.int .u64 0,.int .u64 0,.int .u64 0,.int .u64 0,.int .u64 0,.int .u64 0,.int .u64 0,.int .u64 0] 252 (0,0)):=by rw[Y];exact(setRow_other w2 _ _ _ (by omega)).trans j1
  have m2:W7.heap[o+1+1]? =some (.cells (qj .u64 R) 274 (0,0)):=by rw[Y];exact setRow_heap _ _ _ _ _ _ j2
  have an:Below o w W7:=by rw[Y];exact below_setRow ap (by omega) _
  have aR:o+3≤W7.heap.size:=by rw[Y,setRow_size];omega
  have M0:=hid m0;have M1:=hid m1;have M2:=hid m2;have aJ:=hid an;clear Y m0 m1 m2 an j0 j1 j2 ap aI aL aA;go_wp2_with fail
  go_loopw [19] (fun i wr=> ∃j:Nat,i= .int .i64 (j:Nat)∧j≤8∧wr.heap[o]? =some (.cells (qj .u64 (Qv R (qL h) j)) 252 (0,0))∧But o W7 wr) (fun i _=>8 - (intOf i).toNat)
  case atStart=>exact⟨0,rfl,by omega,M0.out,But.refl _ _⟩
  case round=>
   obtain⟨j,rfl,hj,q,G⟩:=hrel;have J:=hid q;have HB:=hid G;have ae:o+3≤wr.heap.size:=by have:=G.size;omega
   have aj:(qL h).length=16:=ac.out.1;by_cases X:j<8
   case pos=>
    have c0:wr.cell? ⟨o+1+1,j,none⟩=some (.int .u64 (wd R j)):=by rw[qd ((G.block (o+1+1) (by omega) (by omega)).trans M2.out) j,Ym (by rw[r.out.1];omega)]
    have af:(Qv R (qL h) j).length=16:=by rw[yZ (by rw[r.out.1];omega) (by omega),aj]
    have c1:wr.cell? ⟨o,j,none⟩=some (.int .u64 (wd (Qv R (qL h) j) j)):=by rw[qd q j,Ym (by omega)]
    have f1:=frozen_of_row wr o j _ _ q;have U:=heap_setCell_same wr o j _ _ (.int .u64 (wd R j)) q;rw[Qe,zr (by rw[r.out.1];omega) (by omega)]at U;have ag:=yy r.out X;have ak:=hid U;have aG:(j:Int)<8:=by omega
    generalize wd (Qv R (qL h) j) j=zo at c1;generalize wd R j=zj at*;obtain⟨aB,aD⟩:=ag;clear U af q G aj;go_wp2
    exact⟨⟨j+1,rfl,by omega,ak.out,HB.out.set _ _⟩,by simp[intOf];omega⟩
   obtain rfl:j=8:=by omega
   rw[JN r.out.1 I.out.1]at q;have n1:=(G.block (o+1) (by omega) (by omega)).trans M1.out;have aK:Below o w wr:=aJ.out.trans (G.below Nl (by omega));have aa:=Qb (by decide) r.out;clear G aj hj X J;go_wp2_with (first|((with_reducible show wpList _ _ _ (Oper.mk (some 57) _ _ _ _ _::_) _ _);refine wpList_load_row rfl 252 _ rfl o rfl _ _ _ _ q Tryz.underlying252 rfl (by rw[qf,aa.1];kernel_rfl) ?_)|((with_reducible show wpList _ _ _ (Oper.mk none (Op.store 252 _ _) _ _ _ _::_) _ _);refine wpList_store_row rfl 252 _ _ rfl (o+1) (qj .u64 (qL R)) rfl rfl 252 _ n1 (by rw[qf,aa.1];kernel_rfl) (by rw[qf,aa.1];rfl) qy ?_))
   exact Bp (results_cell_row rfl _ _ (o+1) 252 _ _ _ rfl (setRow_heap _ _ _ _ _ _ n1) Tryz.underlying252 rfl (by rw[qf,aa.1];kernel_rfl)) rfl ⟨rfl,by rw[D];exact below_setRow aK (by omega) _⟩
theorem qav (h bs:List Int)(hh:Words 32 8 h)(v:Value)(lo:Nat)(aq:(lo:Int)<9223372036854775808)(U node:Bool)(w:World)(hH:Holds8 w v bs)(hz: ∀z∈bs,0≤z∧z≤255)(hl:bs.length=64):
  Calls Tryz.prog 179 #[.int .i64 2,.agg (qj .u64 (qL h)),v,.int .u64 (lo:Nat),.int .u64 0,.bool U,.bool node] w fun e w'=>e= .returned (.agg (qj .u64 (qL (yD false h bs (lo:Nat) U node))))∧Below w.heap.size w w':=by
 obtain⟨o,D⟩:=Ex w.heap.size;have ah:=yi 4 16 hz (by rw[hl]);obtain⟨M,hM⟩:=Ex (QZ 4 16 bs);obtain⟨R,hR⟩:=Ex (yD false h bs (lo:Nat) U node);have ar:Words 32 8 R:=by rw[←hR];exact QV false hh _ _ _ _
 have av:zV mixSmall IVs 10 h M ((lo:Nat)%4294967296) ((lo:Nat)/4294967296) U node=R:=by rw[←hR,←hM];rfl
 rw[hR];rw[hM]at ah;have al:=Qb (by decide) hh;have ao: ∀j,j<8→wd (qL h) j=wd h j:=fun j hj=>qaY hh.1 hj
 have aQ:=hid hM;have aF:=hid av;have aP:=hid hl;have aA:=hid aq;have ac:=hid ah;have r:=hid ar;have I:=hid hh;have ad:=hid al;have aD:=hid ao;have aO:=hid hz;have aG:=hid hH;clear hM hR av hl aq ah ar ao al hz hH hh;go_enter Tryz.func179,Tryz.ntmps179
 go_wp2_with fail
 have aR:(((w.alloc (.cells (qj .u64 (qL h)) 252)).alloc (.cells #[.int .u64 0,.int .u64 0,.int .u64 0,.int .u64 0,.int .u64 0,.int .u64 0,.int .u64 0,.int .u64 0,.int .u64 0,.int .u64 0,.int .u64 0,.int .u64 0,.int .u64 0,.int .u64 0,.int .u64 0,.int .u64 0] 252)).alloc (.cells (qj .u32 Z8) 284)).heap.size=o+3:=by simp[D]
 have r0:(((w.alloc (.cells (qj .u64 (qL h)) 252)).alloc (.cells #[.int .u64 0,.int .u64 0,.int .u64 0,.int .u64 0,.int .u64 0,.int .u64 0,.int .u64 0,.int .u64 0,.int .u64 0,.int .u64 0,.int .u64 0,.int .u64 0,.int .u64 0,.int .u64 0,.int .u64 0,.int .u64 0] 252)).alloc (.cells (qj .u32 Z8) 284)).heap[o]? =some (.cells (qj .u64 (qL h)) 252 (0,0)):=by
  rw[Bh _ _ _ (by simp[D];omega),Bh _ _ _ (by simp[D]),←D];exact Wn _ _
 have r1:(((w.alloc (.cells (qj .u64 (qL h)) 252)).alloc (.cells #[.int .u64 0,.int .u64 0,.int .u64 0,.int .u64 0,.int .u64 0,.int .u64 0,.int .u64 0,.int .u64 0,.int .u64 0,.int .u64 0,.int .u64 0,.int .u64 0,.int .u64 0,.int .u64 0,.int .u64 0,.int .u64 0] 252)).alloc (.cells (qj .u32 Z8) 284)).heap[o+1]? =some (.cells #[.int .u64 0,.int .u64 0,.int .u64 0,.int .u64 0,.int .u64 0,.int .u64 0,.int .u64 0,.int .u64 0,.int .u64 0,.int .u64 0,.int .u64 0,.int .u64 0,.int .u64 0,.int .u64 0,.int .u64 0,.int .u64 0] 252 (0,0)):=by
  rw[Bh _ _ _ (by simp[D]),show o+1=(w.alloc (.cells (qj .u64 (qL h)) 252)).heap.size by simp[D]];exact Wn _ _
 have r2:(((w.alloc (.cells (qj .u64 (qL h)) 252)).alloc (.cells #[.int .u64 0,.int .u64 0,.int .u64 0,.int .u64 0,.int .u64 0,.int .u64 0,.int .u64 0,.int .u64 0,.int .u64 0,.int .u64 0,.int .u64 0,.int .u64 0,.int .u64 0,.int .u64 0,.int .u64 0,.int .u64 0] 252)).alloc (.cells (qj .u32 Z8) 284)).heap[o+1+1]? =some (.cells (qj .u32 (Qv h Z8 0)) 284 (0,0)):=by
  rw[show o+1+1=((w.alloc (.cells (qj .u64 (qL h)) 252)).alloc (.cells #[.int .u64 0,.int .u64 0,.int .u64 0,.int .u64 0,.int .u64 0,.int .u64 0,.int .u64 0,.int .u64 0,.int .u64 0,.int .u64 0,.int .u64 0,.int .u64 0,.int .u64 0,.int .u64 0,.int .u64 0,.int .u64 0] 252)).heap.size by simp[D]];exact Wn _ _
 have ax:Below o w (((w.alloc (.cells (qj .u64 (qL h)) 252)).alloc (.cells #[.int .u64 0,.int .u64 0,.int .u64 0,.int .u64 0,.int .u64 0,.int .u64 0,.int .u64 0,.int .u64 0,.int .u64 0,.int .u64 0,.int .u64 0,.int .u64 0,.int .u64 0,.int .u64 0,.int .u64 0,.int .u64 0] 252)).alloc (.cells (qj .u32 Z8) 284)):=by rw[←D];exact((Br.alloc Nl _).alloc (by simp) _).alloc (by simp;omega) _
 change Code.wp _ _ _ _ (((w.alloc (.cells (qj .u64 (qL h)) 252)).alloc (.cells #[.int .u64 0,.int .u64 0,.int .u64 0,.int .u64 0,.int .u64 0,.int .u64 0,.int .u64 0,.int .u64 0,.int .u64 0,.int .u64 0,.int .u64 0,.int .u64 0,.int .u64 0,.int .u64 0,.int .u64 0,.int .u64 0] 252)).alloc (.cells (qj .u32 Z8) 284))
 generalize (((w.alloc (.cells (qj .u64 (qL h)) 252)).alloc (.cells #[.int .u64 0,.int .u64 0,.int .u64 0,.int .u64 0,.int .u64 0,.int .u64 0,.int .u64 0,.int .u64 0,.int .u64 0,.int .u64 0,.int .u64 0,.int .u64 0,.int .u64 0,.int .u64 0,.int .u64 0,.int .u64 0] 252)).alloc (.cells (qj .u32 Z8) 284))=W3 at*;have R0:=hid r0;have R1:=hid r1;have R2:=hid r2;have ai:=hid ax;clear r0 r1 r2 ax;go_loopw [21] (fun i wr=> ∃j:Nat,i= .int .i64 (j:Nat)∧j≤8∧wr.heap[o+1+1]? =some (.cells (qj .u32 (Qv h Z8 j)) 284 (0,0))∧But (o+1+1) W3 wr) (fun i _=>8 - (intOf i).toNat)
 case atStart=>exact⟨0,rfl,by omega,R2.out,But.refl _ _⟩
 case round=>
  obtain⟨j,rfl,hj,q,G⟩:=hrel;have O:=hid q;have HB:=hid G;have af:o+3≤wr.heap.size:=by have:=G.size;omega
  by_cases Y:j<8
  case pos=>
   have c0:wr.cell? ⟨o,j,none⟩=some (.int .u64 (wd h j)):=by
    rw[qd ((G.block o (by omega) (by omega)).trans R0.out) j,Ym (by rw[ad.out.1];omega),aD.out j Y]
   have ag:(Qv h Z8 j).length=8:=yZ (by rw[I.out.1];omega) (by show j≤8;omega);have c1:wr.cell? ⟨o+1+1,j,none⟩=some (.int .u32 (wd (Qv h Z8 j) j)):=by rw[qd q j,Ym (by omega)]
   have f1:=frozen_of_row wr (o+1+1) j _ _ q;have V:=heap_setCell_same wr (o+1+1) j _ _ (.int .u32 (wd h j)) q;rw[Qe,zr (by rw[I.out.1];omega) (by show j<8;omega)]at V;have J:=yy I.out Y;have aK:IntKind.u32.wrap (wd h j)=wd h j:=by rw[IntKind.wrap_u32];exact Int.emod_eq_of_lt J.1 J.2
   have ak:=hid V;have aH:(j:Int)<8:=by omega
   generalize wd (Qv h Z8 j) j=zo at c1;generalize wd h j=zj at*;obtain⟨aC,aE⟩:=J;clear V ag q G;go_wp2
   exact⟨⟨j+1,rfl,by omega,ak.out,HB.out.set _ _⟩,by simp[intOf];omega⟩
  obtain rfl:j=8:=by omega
  rw[show Qv h Z8 8=h by unfold Qv;rw[List.take_of_length_le (by rw[I.out.1];omega)];simp[Z8]]at O;have aw:=aG.out.mono_below' (ai.out.trans (G.below (by omega) (by omega))) (by omega);have ay:=hid aw;clear q G aw hj Y;go_wp2_with fail
  refine(qb2 bs v _ ay.out aO.out aP.out).mono ?_;rintro e w1 ⟨rfl,aa⟩;rw[aQ.out];have aI:=aa.size;have k0:=qg ((HB.out.block o (by omega) (by omega)).trans R0.out) aa;have k1:=qg ((HB.out.block (o+1) (by omega) (by omega)).trans R1.out) aa;have k2:=qg O.out aa;have az:Below o w w1:=(ai.out.trans (HB.out.below (by omega) (by omega))).trans (aa.mono (by omega));have K0:=hid k0;have K1:=hid k1;have K2:=hid k2;have au:=hid az;clear k0 k1 k2 az aa HB O R0 R1 R2 ai ay;go_upto_region 20 with((with_reducible show wpList _ _ _ (Oper.mk none (Op.store 298 _ _) _ _ _ _::_) _ _);refine wpList_store_row rfl 298 _ _ rfl w1.heap.size (qj .u32 M) rfl rfl 298 _ (Wn _ _) (by rw[qf,ac.out.1];kernel_rfl) (by rw[qf,ac.out.1];rfl) qy ?_)
  refine qn ?_;intro W hW;obtain⟨bv,ae⟩:=Ex w1.heap.size;have g0:W.heap[o]? =some (.cells (qj .u64 (qL h)) 252 (0,0)):=by rw[hW];exact(setRow_other (w1.alloc _) _ _ _ (by omega)).trans ((Bh _ _ _ (by omega)).trans K0.out)
  have g1:W.heap[o+1]? =some (.cells #[.int .u64 0,.int .u64 0,.int .u64 0,.int .u64 0,.int .u64 0,.int .u64 0,.int .u64 0,.int .u64 0,.int .u64 0,.int .u64 0,.int .u64 0,.int .u64 0,.int .u64 0,.int .u64 0,.int .u64 0,.int .u64 0] 252 (0,0)):=by rw[hW];exact(setRow_other (w1.alloc _) _ _ _ (by omega)).trans ((Bh _ _ _ (by omega)).trans K1.out)
  have g2:W.heap[o+1+1]? =some (.cells (qj .u32 h) 284 (0,0)):=by rw[hW];exact(setRow_other (w1.alloc _) _ _ _ (by omega)).trans ((Bh _ _ _ (by omega)).trans K2.out)
  have g3:W.heap[bv]? =some (.cells (qj .u32 M) 298 (0,0)):=by rw[hW,←ae];exact setRow_heap _ _ _ _ _ _ (Wn _ _)
  have am:Below o w W:=by rw[hW];exact below_setRow (au.out.alloc (by omega) _) (by omega) _
  rw[ae];have aB:o+3≤bv:=by omega
  clear hW ae K0 K1 K2 au aI af;go_wp2_with (first|((with_reducible show wpList _ _ _ (Oper.mk (some 73) _ _ _ _ _::_) _ _);refine wpList_load_row rfl 284 _ rfl (o+1+1) rfl _ _ _ _ g2 Tryz.underlying284 rfl (by rw[qf,I.out.1];kernel_rfl) ?_)|((with_reducible show wpList _ _ _ (Oper.mk (some 74) _ _ _ _ _::_) _ _);refine wpList_load_row rfl 298 _ rfl bv rfl _ _ _ _ g3 Tryz.underlying298 rfl (by rw[qf,ac.out.1];kernel_rfl) ?_))
  refine(qiU h M I.out ac.out (lo:Nat) (by omega) (by have:=aA.out;omega) U node _).mono ?_;rintro e w2 ⟨rfl,X⟩;rw[aF.out];have aJ:=X.size;have aN:=(Ai g3).1;have j0:=qg g0 X;have j1:=qg g1 X;have j2:=qg g2 X;have ap:Below o w w2:=am.trans (X.mono (by omega));clear g0 g1 g2 g3 am X;go_upto_region 21 with((with_reducible show wpList _ _ _ (Oper.mk none (Op.store 284 _ _) _ _ _ _::_) _ _);refine wpList_store_row rfl 284 _ _ rfl (o+1+1) (qj .u32 R) rfl rfl 284 _ j2 (by rw[qf,r.out.1];kernel_rfl) (by rw[qf,qf,r.out.1,I.out.1]) qy ?_)
  refine qn ?_;intro W7 Z;have m0:W7.heap[o]? =some (.cells (qj .u64 (Qv R (qL h) 0)) 252 (0,0)):=by rw[Z];exact(setRow_other w2 _ _ _ (by omega)).trans j0
  have m1:W7.heap[o+1]? =some (.cells #[.int .u64 0,.int .u64 0,.int .u64 0,.int .u64 0,.int .u64 0,.int .u64 0,.int .u64 0,.int .u64 0,.int .u64 0,.int .u64 0,.int .u64 0,.int .u64 0,.int .u64 0,.int .u64 0,.int .u64 0,.int .u64 0] 252 (0,0)):=by rw[Z];exact(setRow_other w2 _ _ _ (by omega)).trans j1
  have m2:W7.heap[o+1+1]? =some (.cells (qj .u32 R) 284 (0,0)):=by rw[Z];exact setRow_heap _ _ _ _ _ _ j2
  have an:Below o w W7:=by rw[Z];exact below_setRow ap (by omega) _
  have aS:o+3≤W7.heap.size:=by rw[Z,setRow_size];omega
  have M0:=hid m0;have M1:=hid m1;have M2:=hid m2;have aL:=hid an;clear Z m0 m1 m2 an j0 j1 j2 ap aJ aN aB;go_wp2_with fail
  go_loopw [24] (fun i wr=> ∃j:Nat,i= .int .i64 (j:Nat)∧j≤8∧wr.heap[o]? =some (.cells (qj .u64 (Qv R (qL h) j)) 252 (0,0))∧But o W7 wr) (fun i _=>8 - (intOf i).toNat)
  case atStart=>exact⟨0,rfl,by omega,M0.out,But.refl _ _⟩
  case round=>
   obtain⟨j,rfl,hj,q,G⟩:=hrel;have O:=hid q;have HB:=hid G;have af:o+3≤wr.heap.size:=by have:=G.size;omega
   have aj:(qL h).length=16:=ad.out.1;by_cases Y:j<8
   case pos=>
    have c0:wr.cell? ⟨o+1+1,j,none⟩=some (.int .u32 (wd R j)):=by rw[qd ((G.block (o+1+1) (by omega) (by omega)).trans M2.out) j,Ym (by rw[r.out.1];omega)]
    have ag:(Qv R (qL h) j).length=16:=by rw[yZ (by rw[r.out.1];omega) (by omega),aj]
    have c1:wr.cell? ⟨o,j,none⟩=some (.int .u64 (wd (Qv R (qL h) j) j)):=by rw[qd q j,Ym (by omega)]
    have f1:=frozen_of_row wr o j _ _ q;have V:=heap_setCell_same wr o j _ _ (.int .u64 (wd R j)) q;rw[Qe,zr (by rw[r.out.1];omega) (by omega)]at V;have J:=yy r.out Y;have aK:IntKind.u64.wrap (wd R j)=wd R j:=u64_wrap_id _ J.1 (by have:=J.2;simp at this;omega);have ak:=hid V;have aH:(j:Int)<8:=by omega
    generalize wd (Qv R (qL h) j) j=zo at c1;generalize wd R j=zj at*;obtain⟨aC,aE⟩:=J;clear V ag q G aj;go_wp2
    exact⟨⟨j+1,rfl,by omega,ak.out,HB.out.set _ _⟩,by simp[intOf];omega⟩
   obtain rfl:j=8:=by omega
   rw[JN r.out.1 I.out.1]at q;have n1:=(G.block (o+1) (by omega) (by omega)).trans M1.out;have aM:Below o w wr:=aL.out.trans (G.below Nl (by omega));have ab:=Qb (by decide) r.out;clear G aj hj Y O;go_wp2_with (first|((with_reducible show wpList _ _ _ (Oper.mk (some 89) _ _ _ _ _::_) _ _);refine wpList_load_row rfl 252 _ rfl o rfl _ _ _ _ q Tryz.underlying252 rfl (by rw[qf,ab.1];kernel_rfl) ?_)|((with_reducible show wpList _ _ _ (Oper.mk none (Op.store 252 _ _) _ _ _ _::_) _ _);refine wpList_store_row rfl 252 _ _ rfl (o+1) (qj .u64 (qL R)) rfl rfl 252 _ n1 (by rw[qf,ab.1];kernel_rfl) (by rw[qf,ab.1];rfl) qy ?_))
   exact Bp (results_cell_row rfl _ _ (o+1) 252 _ _ _ rfl (setRow_heap _ _ _ _ _ _ n1) Tryz.underlying252 rfl (by rw[qf,ab.1];kernel_rfl)) rfl ⟨rfl,by rw[D];exact below_setRow aM (by omega) _⟩
def rN (kd:Int)(v:Nat→Nat)(sa pe kv:Value)(la:Bool)(mv:Value)(cnt:Int):Array Value:= #[.int .i64 kd,.int .i64 (v 1:Nat),.int .i64 (v 2:Nat),.int .i64 (v 3:Nat),.int .i64 (v 4:Nat),.int .u32 (v 5:Nat),.int .u64 (v 6:Nat),.int .u32 (v 7:Nat),.int .i64 (v 8:Nat),.int .i64 (v 9:Nat),sa,pe,kv,.bool la,.int .u64 0,.int .u64 0,.int .u64 0,.int .u64 0,.int .u64 0,.int .u64 0,.int .u64 0,.int .u64 0,.int .u64 0,.int .u64 0,.int .u64 0,.int .u64 0,.int .u64 0,.int .u64 0,.int .u64 0,.int .u64 0,.bool false,.int .u64 0,.int .u64 0,mv,.int .u64 cnt]
def Yd (big:Bool)(w:World)(np:Nat)(v:Nat→Nat)(sa pe kv:Value)(la:Bool)(mv:Value)(cnt:Int):Prop:=w.heap[np]? =some (.cells (rN (kB big) v sa pe kv la mv cnt) 254 (0,0))
def qgp (v:Nat→Nat)(sa pe:Value):Array Value:= #[.int .i64 (v 1:Nat),.int .i64 (v 2:Nat),.int .i64 (v 3:Nat),.int .i64 (v 4:Nat),.int .u32 (v 5:Nat),.int .u64 (v 6:Nat),.int .u32 (v 7:Nat),.int .i64 (v 8:Nat),.int .i64 (v 9:Nat),sa,pe]
theorem qhn (J:Int)(v:Nat→Nat)(q o I:Value)(la:Bool)(G:Value)(r:Int): ∀j,j<(qgp v q o).size→(rN J v q o I la G r)[1+j]? =(qgp v q o)[j]? :=by
 intro j D;have D:j<11:=D;rcases(show j=0∨j=1∨j=2∨j=3∨j=4∨j=5∨j=6∨j=7∨j=8∨j=9∨j=10 by omega)with rfl|rfl|rfl|rfl|rfl|rfl|rfl|rfl|rfl|rfl|rfl<;>rfl
theorem Z3 {b zs:List Int}{p:Nat}(o: ∀z∈b,0≤z∧z≤255)(q: ∀z∈zs,0≤z∧z≤255): ∀z∈Qj b p zs,0≤z∧z≤255:=by
 intro z h;unfold Qj at h;rcases List.mem_append.1 h with h|h
 ·rcases List.mem_append.1 h with h|h
  ·exact o z (List.mem_of_mem_take h)
  ·exact q z h
 ·exact o z (List.mem_of_mem_drop h)
theorem jh (big o:Bool)(v:Nat→Nat): ∀k,∀z∈QB big o v k,0≤z∧z≤255
 | 0,z,h=>by rw[List.eq_of_mem_replicate h];omega
 | k+1,z,h=>by
  rw[QB]at h;split at h
  ·exact jh big o v k z h
  ·exact Z3 (jh big o v k) (Jd _ _) z h
theorem jn {big:Bool}{v:Nat→Nat}{z1 z2:List Int}(q: ∀z∈z1,0≤z∧z≤255)(o: ∀z∈z2,0≤z∧z≤255): ∀z∈Q4 big v z1 z2,0≤z∧z≤255:=
 Z3 (Z3 (jh _ _ _ _) q) o
theorem qb5 (v:Nat→Nat)(z1 z2:List Int)(sa pe kv mv:Value)(la:Bool)(am:Int)(J:Nat)(w:World)(hN:Yd true w J v sa pe kv la mv am)(hP:ParOk true v)(h1:Hold w sa z1)(h2:Hold w pe z2)(aN:z1.length≤16)(ax:z2.length≤16):
  Calls Tryz.prog 191 #[.pointer (some ⟨J,0,none⟩)] w fun e w'=>e= .returned (.agg (qj .u64 (qL (h0Z true (Q4 true v z1 z2)))))∧Below w.heap.size w w':=by
 obtain⟨q,ab⟩:=Ex w.heap.size;have a8:J<q:=by rw[←ab];exact(Ai hN).1
 have au:=fun(W:World) (I:Below q w W)=>Z9 v z1 z2 sa pe W hP (h1.below (ab▸I)) (h2.below (ab▸I)) aN ax
 have av: ∀z∈Q4 true v z1 z2,0≤z∧z≤255:=jn h1.1 h2.1;have aA:=yq (big:=true) (v:=v) aN ax;generalize Q4 true v z1 z2=V at*;obtain⟨H,ai⟩:=Ex (h0Z true V);have aB:Words 64 8 H:=by rw[←ai];exact QX true V
 have aK:yz .u64 IVb 8 V=H:=by rw[←ai];rfl
 rw[ai];have ah:w.heap[J]? =some (.cells (rN 1 v sa pe kv la mv am) 254 (0,0)):=hN;have aT:=hid au;have aR:=hid av;have aV:=hid aA;have aU:=hid aK;have O:=hid aB;have aD:=hid ah;have a6:w.cell? ⟨J,30,none⟩=some (.bool false):=qd ah 30;have ak:w.cell? ⟨J,0,none⟩=some (.int .i64 1):=qd ah 0;have af:J<w.heap.size:=by omega
 clear hN ah au av aA ai aK aB hP h1 h2;go_enter Tryz.func191,Tryz.ntmps191
 go_upto_region 4 with(fail)
 have a3:((w.alloc (.cells #[.int .u64 0,.int .u64 0,.int .u64 0,.int .u64 0,.int .u64 0,.int .u64 0,.int .u64 0,.int .u64 0,.int .u64 0,.int .u64 0,.int .u64 0,.int .u64 0,.int .u64 0,.int .u64 0,.int .u64 0,.int .u64 0] 252)).alloc (.cells #[.int .u64 0,.int .u64 0,.int .u64 0,.int .u64 0,.int .u64 0,.int .u64 0,.int .u64 0,.int .u64 0,.int .u64 0,.int .u64 0,.int .u64 0,.int .u64 0,.int .u64 0,.int .u64 0,.int .u64 0,.int .u64 0] 252)).heap.size=q+2:=by simp[ab]
 have r0:((w.alloc (.cells #[.int .u64 0,.int .u64 0,.int .u64 0,.int .u64 0,.int .u64 0,.int .u64 0,.int .u64 0,.int .u64 0,.int .u64 0,.int .u64 0,.int .u64 0,.int .u64 0,.int .u64 0,.int .u64 0,.int .u64 0,.int .u64 0] 252)).alloc (.cells #[.int .u64 0,.int .u64 0,.int .u64 0,.int .u64 0,.int .u64 0,.int .u64 0,.int .u64 0,.int .u64 0,.int .u64 0,.int .u64 0,.int .u64 0,.int .u64 0,.int .u64 0,.int .u64 0,.int .u64 0,.int .u64 0] 252)).heap[q]? =some (.cells #[.int .u64 0,.int .u64 0,.int .u64 0,.int .u64 0,.int .u64 0,.int .u64 0,.int .u64 0,.int .u64 0,.int .u64 0,.int .u64 0,.int .u64 0,.int .u64 0,.int .u64 0,.int .u64 0,.int .u64 0,.int .u64 0] 252 (0,0)):=by rw[Bh _ _ _ (by simp[ab]),←ab];exact Wn _ _
 have r1:((w.alloc (.cells #[.int .u64 0,.int .u64 0,.int .u64 0,.int .u64 0,.int .u64 0,.int .u64 0,.int .u64 0,.int .u64 0,.int .u64 0,.int .u64 0,.int .u64 0,.int .u64 0,.int .u64 0,.int .u64 0,.int .u64 0,.int .u64 0] 252)).alloc (.cells #[.int .u64 0,.int .u64 0,.int .u64 0,.int .u64 0,.int .u64 0,.int .u64 0,.int .u64 0,.int .u64 0,.int .u64 0,.int .u64 0,.int .u64 0,.int .u64 0,.int .u64 0,.int .u64 0,.int .u64 0,.int .u64 0] 252)).heap[q+1]? =some (.cells (qj .u64 (Qv H (qL Z8) 0)) 252 (0,0)):=by rw[show q+1=(w.alloc (.cells #[.int .u64 0,.int .u64 0,.int .u64 0,.int .u64 0,.int .u64 0,.int .u64 0,.int .u64 0,.int .u64 0,.int .u64 0,.int .u64 0,.int .u64 0,.int .u64 0,.int .u64 0,.int .u64 0,.int .u64 0,.int .u64 0] 252)).heap.size by simp[ab]];exact Wn _ _
 have al:Below q w ((w.alloc (.cells #[.int .u64 0,.int .u64 0,.int .u64 0,.int .u64 0,.int .u64 0,.int .u64 0,.int .u64 0,.int .u64 0,.int .u64 0,.int .u64 0,.int .u64 0,.int .u64 0,.int .u64 0,.int .u64 0,.int .u64 0,.int .u64 0] 252)).alloc (.cells #[.int .u64 0,.int .u64 0,.int .u64 0,.int .u64 0,.int .u64 0,.int .u64 0,.int .u64 0,.int .u64 0,.int .u64 0,.int .u64 0,.int .u64 0,.int .u64 0,.int .u64 0,.int .u64 0,.int .u64 0,.int .u64 0] 252)):=by rw[←ab];exact(Br.alloc Nl _).alloc (by simp) _
 generalize ((w.alloc (.cells #[.int .u64 0,.int .u64 0,.int .u64 0,.int .u64 0,.int .u64 0,.int .u64 0,.int .u64 0,.int .u64 0,.int .u64 0,.int .u64 0,.int .u64 0,.int .u64 0,.int .u64 0,.int .u64 0,.int .u64 0,.int .u64 0] 252)).alloc (.cells #[.int .u64 0,.int .u64 0,.int .u64 0,.int .u64 0,.int .u64 0,.int .u64 0,.int .u64 0,.int .u64 0,.int .u64 0,.int .u64 0,.int .u64 0,.int .u64 0,.int .u64 0,.int .u64 0,.int .u64 0,.int .u64 0] 252))=Y at*;have aL:Y.heap[J]? =some (.cells (rN 1 v sa pe kv la mv am) 254 (0,0)):=(al.block J a8).trans aD.out;have R0:=hid r0;have R1:=hid r1;have ar:=hid al;have ag:=hid aL;clear r0 r1 al aL a6 ak aD af;refine qE (n:=14) (w0:=Y) (B:=Y.heap.size) [.v 21 (.pointer (some ⟨J,0,none⟩)),.v 22 (.pointer (some ⟨J,0,none⟩)),.v 23 (.pointer (some ⟨J,0,none⟩)),.v 24 (.int .i64 1),.v 25 (.pointer (some ⟨J,0,none⟩)),.v 26 (.pointer (some ⟨J,0,none⟩)),.v 27 (.pointer (some ⟨J,1,none⟩)),.v 28 (.agg (qgp v sa pe)),.p 29 (fun u W=> ∃r,u= .tuple #[r,.int .i64 0]∧W.ownsRow Y.heap.size 5 1 r 64 (V.map qt)),.p 20 (fun u W=> ∃r,u= .tuple #[r,.int .i64 0]∧W.ownsRow Y.heap.size 5 1 r 64 (V.map qt)),.p 30 (fun u W=>W.ownsRow Y.heap.size 5 1 u 64 (V.map qt)),.v 31 (.int .i64 0),.p 4 (fun u W=>W.ownsRow Y.heap.size 5 1 u 64 (V.map qt)),.v 5 (.int .i64 0)] (by exact⟨(fun _ _ _ h I=>by obtain⟨r,e,h⟩:=h;exact⟨r,e,qi h (fun g _ hg=>I.block g hg)⟩),(fun _ _ _ h I=>by obtain⟨r,e,h⟩:=h;exact⟨r,e,qi h (fun g _ hg=>I.block g hg)⟩),(fun _ _ _ h I=>qi h (fun g _ hg=>I.block g hg)),(fun _ _ _ h I=>qi h (fun g _ hg=>I.block g hg)),trivial⟩) Br.drew Nl ?_ ?_
 ·repeat' (with_reducible first|exact qz|refine qx ?_ ?_)
  all_goals try
   intro A x W G U X o D K Z;have a0:=G.2 0 (by decide);conv at a0=>rhs;whnf
   simp only[QW,Q8]at D;clear o G;go_simp
   exact Z _ _ BR rfl
  ·intro A x W G U X o _ K Z;have bn:=gv G o 2 23;clear o G;have g0:=qg ag.out U;have c0:W.cell? ⟨J,0,none⟩=some (.int .i64 1):=qd g0 0;go_simp
   exact Z _ _ BR rfl
  ·intro A x W G U X o _ K Z;have aW:=gv G o 6 27;clear o G;have g0:=qg ag.out U;refine Qf 171 _ rfl J 1 aW 254 _ (qgp v sa pe) (0,0) _ g0 Tryz.underlying171 rfl (by kernel_rfl) (qhn _ _ _ _ _ _ _ _) (Z _ _ Br rfl)
  ·intro A x W G U X o _ K Z;have bm:=gv G o 3 24;have bl:=gv G o 7 28;clear o G;go_simp
   refine(aT.out W (ar.out.trans (U.mono (by omega)))).mono ?_;rintro e w' ⟨⟨r,rfl,ho⟩,I⟩;exact Z _ _ I ⟨r,rfl,ownsRow_le ho X⟩
  ·intro A x W G U X o _ K Z;have a4:(fun u W=> ∃r,u= .tuple #[r,.int .i64 0]∧W.ownsRow Y.heap.size 5 1 r 64 (V.map qt)) (x 29) W:=o ⟨8,.data⟩ (by simp) rfl _ rfl;have bd:A.tmps.getD 29 undef=x 29:=G.1 29 (by decide);clear o G;go_simp
   exact Z _ _ Br (bd▸a4)
  ·intro A x W G U X o _ K Z;have ao:(fun u W=> ∃r,u= .tuple #[r,.int .i64 0]∧W.ownsRow Y.heap.size 5 1 r 64 (V.map qt)) (x 20) W:=o ⟨9,.data⟩ (by simp) rfl _ rfl;have an:A.tmps.getD 20 undef=x 20:=G.1 20 (by decide);clear o G;obtain⟨r,er,hr⟩:=ao;rw[er]at an;go_simp
   exact Z _ _ Br hr
  ·intro A x W G U X o _ K Z;have ao:(fun u W=> ∃r,u= .tuple #[r,.int .i64 0]∧W.ownsRow Y.heap.size 5 1 r 64 (V.map qt)) (x 20) W:=o ⟨9,.data⟩ (by simp) rfl _ rfl;have an:A.tmps.getD 20 undef=x 20:=G.1 20 (by decide);clear o G;obtain⟨r,er,hr⟩:=ao;rw[er]at an;go_simp
   exact Z _ _ BR rfl
  ·intro A x W G U X o _ K Z;have a5:(fun u W=>W.ownsRow Y.heap.size 5 1 u 64 (V.map qt)) (x 30) W:=o ⟨10,.data⟩ (by simp) rfl _ rfl;have bc:A.tmps.getD 30 undef=x 30:=G.1 30 (by decide);clear o G;go_simp
   exact Z _ _ Br (bc▸a5)
 intro x W U X aQ;obtain⟨aG,aH,aP,e4, -⟩:=aQ;change (fun u W=> ∃r,u= .tuple #[r,.int .i64 0]∧W.ownsRow Y.heap.size 5 1 r 64 (V.map qt)) (x 29) W at aG
 change (fun u W=> ∃r,u= .tuple #[r,.int .i64 0]∧W.ownsRow Y.heap.size 5 1 r 64 (V.map qt)) (x 20) W at aH
 change (fun u W=>W.ownsRow Y.heap.size 5 1 u 64 (V.map qt)) (x 30) W at aP
 change (fun u W=>W.ownsRow Y.heap.size 5 1 u 64 (V.map qt)) (x 4) W at e4
 refine qw ?_;simp only[QF,Act.put,Ls];have aJ:=Q7 e4;have aC:Below q w W:=ar.out.trans (U.mono (by omega));have g0:=qg ag.out U;have r0:=qg R0.out U;have r1:=qg R1.out U;have ak:W.cell? ⟨J,0,none⟩=some (.int .i64 1):=qd g0 0;have af:J<W.heap.size:=(Ai g0).1;have bb:q+2≤W.heap.size:=by have:=U.size;omega
 have aE:=hid r0;have aO:=hid r1;have aI:=hid aC;have aw:=hid aJ;clear aG aH aP e4 aJ aC g0 r0 r1 U X R0 R1 ar ag a3;go_wp2_with fail
 refine(qeX V _ _ aw.out aR.out aV.out).mono ?_;rintro e w1 ⟨rfl,ae⟩;rw[aU.out];have aZ:=ae.size;have k0:=qg aE.out ae;have k1:=qg aO.out ae;have aM:Below q w w1:=aI.out.trans (ae.mono (by omega));have K0:=hid k0;have K1:=hid k1;have aF:=hid aM;clear k0 k1 aM ae aE aO aI aw ak af;go_upto_region 7 with((with_reducible show wpList _ _ _ (Oper.mk none (Op.store 274 _ _) _ _ _ _::_) _ _);refine wpList_store_row rfl 274 _ _ rfl w1.heap.size (qj .u64 H) rfl rfl 274 _ (Wn _ _) (by rw[qf,O.out.1];kernel_rfl) (by rw[qf,O.out.1];rfl) qy ?_)
 refine qn ?_;intro W7 ad;obtain⟨bv,aj⟩:=Ex w1.heap.size;have m0:W7.heap[q]? =some (.cells #[.int .u64 0,.int .u64 0,.int .u64 0,.int .u64 0,.int .u64 0,.int .u64 0,.int .u64 0,.int .u64 0,.int .u64 0,.int .u64 0,.int .u64 0,.int .u64 0,.int .u64 0,.int .u64 0,.int .u64 0,.int .u64 0] 252 (0,0)):=by rw[ad];exact(setRow_other (w1.alloc _) _ _ _ (by omega)).trans ((Bh _ _ _ (by omega)).trans K0.out)
 have m1:W7.heap[q+1]? =some (.cells (qj .u64 (Qv H (qL Z8) 0)) 252 (0,0)):=by rw[ad];exact(setRow_other (w1.alloc _) _ _ _ (by omega)).trans ((Bh _ _ _ (by omega)).trans K1.out)
 have m2:W7.heap[bv]? =some (.cells (qj .u64 H) 274 (0,0)):=by rw[ad,←aj];exact setRow_heap _ _ _ _ _ _ (Wn _ _)
 have az:Below q w W7:=by rw[ad];exact below_setRow (aF.out.alloc (by omega) _) (by omega) _
 have bf:bv<W7.heap.size:=(Ai m2).1;have bh:q+2≤bv:=by omega
 rw[aj];have M0:=hid m0;have M1:=hid m1;have M2:=hid m2;have a9:=hid az;clear ad aj m0 m1 m2 az K0 K1 aF aZ bb;go_wp2_with fail
 go_loopw [8] (fun i wr=> ∃j:Nat,i= .int .i64 (j:Nat)∧j≤8∧wr.heap[q+1]? =some (.cells (qj .u64 (Qv H (qL Z8) j)) 252 (0,0))∧But (q+1) W7 wr) (fun i _=>8 - (intOf i).toNat)
 case atStart=>exact⟨0,rfl,by omega,M1.out,But.refl _ _⟩
 case round=>
  obtain⟨j,rfl,hj,aa,I⟩:=hrel;have aS:=hid aa;have HB:=hid I;have be:bv<wr.heap.size:=by have:=I.size;omega
  have ap:(qL Z8).length=16:=rfl;by_cases ay:j<8
  case pos=>
   have c0:wr.cell? ⟨bv,j,none⟩=some (.int .u64 (wd H j)):=by rw[qd ((I.block bv (by omega) (by omega)).trans M2.out) j,Ym (by rw[O.out.1];omega)]
   have aX:(Qv H (qL Z8) j).length=16:=by rw[yZ (by rw[O.out.1];omega) (by omega),ap]
   have c1:wr.cell? ⟨q+1,j,none⟩=some (.int .u64 (wd (Qv H (qL Z8) j) j)):=by rw[qd aa j,Ym (by omega)]
   have f1:=frozen_of_row wr (q+1) j _ _ aa;have aq:=heap_setCell_same wr (q+1) j _ _ (.int .u64 (wd H j)) aa;rw[Qe,zr (by rw[O.out.1];omega) (by omega)]at aq;have aY:=yy O.out ay;have a7:=hid aq;have bk:(j:Int)<8:=by omega
   generalize wd (Qv H (qL Z8) j) j=zo at c1;generalize wd H j=zj at*;obtain⟨bi,bj⟩:=aY;clear aq aX aa I ap;go_wp2
   exact⟨⟨j+1,rfl,by omega,a7.out,HB.out.set _ _⟩,by simp[intOf];omega⟩
  obtain rfl:j=8:=by omega
  rw[JN O.out.1 rfl]at aa;have n1:=(I.block q (by omega) (by omega)).trans M0.out;have ba:Below q w wr:=a9.out.trans (I.below (by omega) (by omega));have ac:=Qb (by decide) O.out;have bg:q+1<wr.heap.size:=by omega
  clear I ap hj ay aS;go_wp2_with (first|((with_reducible show wpList _ _ _ (Oper.mk (some 51) _ _ _ _ _::_) _ _);refine wpList_load_row rfl 252 _ rfl (q+1) rfl _ _ _ _ aa Tryz.underlying252 rfl (by rw[qf,ac.1];kernel_rfl) ?_)|((with_reducible show wpList _ _ _ (Oper.mk none (Op.store 252 _ _) _ _ _ _::_) _ _);refine wpList_store_row rfl 252 _ _ rfl q (qj .u64 (qL H)) rfl rfl 252 _ n1 (by rw[qf,ac.1];kernel_rfl) (by rw[qf,ac.1];rfl) qy ?_))
  exact Bp (results_cell_row rfl _ _ q 252 _ _ _ rfl (setRow_heap _ _ _ _ _ _ n1) Tryz.underlying252 rfl (by rw[qf,ac.1];kernel_rfl)) rfl ⟨rfl,by rw[ab];exact below_setRow ba Nl _⟩
theorem qbs (v:Nat→Nat)(z1 z2:List Int)(sa pe kv mv:Value)(la:Bool)(an:Int)(J:Nat)(w:World)(hN:Yd false w J v sa pe kv la mv an)(hP:ParOk false v)(h1:Hold w sa z1)(h2:Hold w pe z2)(aO:z1.length≤8)(ay:z2.length≤8):
  Calls Tryz.prog 191 #[.pointer (some ⟨J,0,none⟩)] w fun e w'=>e= .returned (.agg (qj .u64 (qL (h0Z false (Q4 false v z1 z2)))))∧Below w.heap.size w w':=by
 obtain⟨q,ab⟩:=Ex w.heap.size;have a8:J<q:=by rw[←ab];exact(Ai hN).1
 have av:=fun(W:World) (I:Below q w W)=>ZK v z1 z2 sa pe W hP (h1.below (ab▸I)) (h2.below (ab▸I)) aO ay
 have aw: ∀z∈Q4 false v z1 z2,0≤z∧z≤255:=jn h1.1 h2.1;have aB:=yq (big:=false) (v:=v) aO ay;generalize Q4 false v z1 z2=V at*;obtain⟨H,ai⟩:=Ex (h0Z false V);have aC:Words 32 8 H:=by rw[←ai];exact QX false V
 have aL:yz .u32 IVs 4 V=H:=by rw[←ai];rfl
 rw[ai];have ah:w.heap[J]? =some (.cells (rN 2 v sa pe kv la mv an) 254 (0,0)):=hN;have aU:=hid av;have aS:=hid aw;have aW:=hid aB;have aV:=hid aL;have O:=hid aC;have aE:=hid ah;have a6:w.cell? ⟨J,30,none⟩=some (.bool false):=qd ah 30;have ak:w.cell? ⟨J,0,none⟩=some (.int .i64 2):=qd ah 0;have af:J<w.heap.size:=by omega
 clear hN ah av aw aB ai aL aC hP h1 h2;go_enter Tryz.func191,Tryz.ntmps191
 go_upto_region 4 with(fail)
 have a3:((w.alloc (.cells #[.int .u64 0,.int .u64 0,.int .u64 0,.int .u64 0,.int .u64 0,.int .u64 0,.int .u64 0,.int .u64 0,.int .u64 0,.int .u64 0,.int .u64 0,.int .u64 0,.int .u64 0,.int .u64 0,.int .u64 0,.int .u64 0] 252)).alloc (.cells #[.int .u64 0,.int .u64 0,.int .u64 0,.int .u64 0,.int .u64 0,.int .u64 0,.int .u64 0,.int .u64 0,.int .u64 0,.int .u64 0,.int .u64 0,.int .u64 0,.int .u64 0,.int .u64 0,.int .u64 0,.int .u64 0] 252)).heap.size=q+2:=by simp[ab]
 have r0:((w.alloc (.cells #[.int .u64 0,.int .u64 0,.int .u64 0,.int .u64 0,.int .u64 0,.int .u64 0,.int .u64 0,.int .u64 0,.int .u64 0,.int .u64 0,.int .u64 0,.int .u64 0,.int .u64 0,.int .u64 0,.int .u64 0,.int .u64 0] 252)).alloc (.cells #[.int .u64 0,.int .u64 0,.int .u64 0,.int .u64 0,.int .u64 0,.int .u64 0,.int .u64 0,.int .u64 0,.int .u64 0,.int .u64 0,.int .u64 0,.int .u64 0,.int .u64 0,.int .u64 0,.int .u64 0,.int .u64 0] 252)).heap[q]? =some (.cells #[.int .u64 0,.int .u64 0,.int .u64 0,.int .u64 0,.int .u64 0,.int .u64 0,.int .u64 0,.int .u64 0,.int .u64 0,.int .u64 0,.int .u64 0,.int .u64 0,.int .u64 0,.int .u64 0,.int .u64 0,.int .u64 0] 252 (0,0)):=by rw[Bh _ _ _ (by simp[ab]),←ab];exact Wn _ _
 have r1:((w.alloc (.cells #[.int .u64 0,.int .u64 0,.int .u64 0,.int .u64 0,.int .u64 0,.int .u64 0,.int .u64 0,.int .u64 0,.int .u64 0,.int .u64 0,.int .u64 0,.int .u64 0,.int .u64 0,.int .u64 0,.int .u64 0,.int .u64 0] 252)).alloc (.cells #[.int .u64 0,.int .u64 0,.int .u64 0,.int .u64 0,.int .u64 0,.int .u64 0,.int .u64 0,.int .u64 0,.int .u64 0,.int .u64 0,.int .u64 0,.int .u64 0,.int .u64 0,.int .u64 0,.int .u64 0,.int .u64 0] 252)).heap[q+1]? =some (.cells (qj .u64 (Qv H (qL Z8) 0)) 252 (0,0)):=by rw[show q+1=(w.alloc (.cells #[.int .u64 0,.int .u64 0,.int .u64 0,.int .u64 0,.int .u64 0,.int .u64 0,.int .u64 0,.int .u64 0,.int .u64 0,.int .u64 0,.int .u64 0,.int .u64 0,.int .u64 0,.int .u64 0,.int .u64 0,.int .u64 0] 252)).heap.size by simp[ab]];exact Wn _ _
 have am:Below q w ((w.alloc (.cells #[.int .u64 0,.int .u64 0,.int .u64 0,.int .u64 0,.int .u64 0,.int .u64 0,.int .u64 0,.int .u64 0,.int .u64 0,.int .u64 0,.int .u64 0,.int .u64 0,.int .u64 0,.int .u64 0,.int .u64 0,.int .u64 0] 252)).alloc (.cells #[.int .u64 0,.int .u64 0,.int .u64 0,.int .u64 0,.int .u64 0,.int .u64 0,.int .u64 0,.int .u64 0,.int .u64 0,.int .u64 0,.int .u64 0,.int .u64 0,.int .u64 0,.int .u64 0,.int .u64 0,.int .u64 0] 252)):=by rw[←ab];exact(Br.alloc Nl _).alloc (by simp) _
 generalize ((w.alloc (.cells #[.int .u64 0,.int .u64 0,.int .u64 0,.int .u64 0,.int .u64 0,.int .u64 0,.int .u64 0,.int .u64 0,.int .u64 0,.int .u64 0,.int .u64 0,.int .u64 0,.int .u64 0,.int .u64 0,.int .u64 0,.int .u64 0] 252)).alloc (.cells #[.int .u64 0,.int .u64 0,.int .u64 0,.int .u64 0,.int .u64 0,.int .u64 0,.int .u64 0,.int .u64 0,.int .u64 0,.int .u64 0,.int .u64 0,.int .u64 0,.int .u64 0,.int .u64 0,.int .u64 0,.int .u64 0] 252))=Y at*;have aM:Y.heap[J]? =some (.cells (rN 2 v sa pe kv la mv an) 254 (0,0)):=(am.block J a8).trans aE.out;have R0:=hid r0;have R1:=hid r1;have au:=hid am;have ag:=hid aM;clear r0 r1 am aM a6 ak aE af;refine qE (n:=14) (w0:=Y) (B:=Y.heap.size) [.v 21 (.pointer (some ⟨J,0,none⟩)),.v 22 (.pointer (some ⟨J,0,none⟩)),.v 23 (.pointer (some ⟨J,0,none⟩)),.v 24 (.int .i64 2),.v 25 (.pointer (some ⟨J,0,none⟩)),.v 26 (.pointer (some ⟨J,0,none⟩)),.v 27 (.pointer (some ⟨J,1,none⟩)),.v 28 (.agg (qgp v sa pe)),.p 29 (fun u W=> ∃r,u= .tuple #[r,.int .i64 0]∧W.ownsRow Y.heap.size 5 1 r 32 (V.map qt)),.p 20 (fun u W=> ∃r,u= .tuple #[r,.int .i64 0]∧W.ownsRow Y.heap.size 5 1 r 32 (V.map qt)),.p 30 (fun u W=>W.ownsRow Y.heap.size 5 1 u 32 (V.map qt)),.v 31 (.int .i64 0),.p 4 (fun u W=>W.ownsRow Y.heap.size 5 1 u 32 (V.map qt)),.v 5 (.int .i64 0)] (by exact⟨(fun _ _ _ h I=>by obtain⟨r,e,h⟩:=h;exact⟨r,e,qi h (fun g _ hg=>I.block g hg)⟩),(fun _ _ _ h I=>by obtain⟨r,e,h⟩:=h;exact⟨r,e,qi h (fun g _ hg=>I.block g hg)⟩),(fun _ _ _ h I=>qi h (fun g _ hg=>I.block g hg)),(fun _ _ _ h I=>qi h (fun g _ hg=>I.block g hg)),trivial⟩) Br.drew Nl ?_ ?_
 ·repeat' (with_reducible first|exact qz|refine qx ?_ ?_)
  all_goals try
   intro A x W G U X o D K Z;have a0:=G.2 0 (by decide);conv at a0=>rhs;whnf
   simp only[QW,Q8]at D;clear o G;go_simp
   exact Z _ _ BR rfl
  ·intro A x W G U X o _ K Z;have bo:=gv G o 2 23;clear o G;have g0:=qg ag.out U;have c0:W.cell? ⟨J,0,none⟩=some (.int .i64 2):=qd g0 0;go_simp
   exact Z _ _ BR rfl
  ·intro A x W G U X o _ K Z;have aX:=gv G o 6 27;clear o G;have g0:=qg ag.out U;refine Qf 171 _ rfl J 1 aX 254 _ (qgp v sa pe) (0,0) _ g0 Tryz.underlying171 rfl (by kernel_rfl) (qhn _ _ _ _ _ _ _ _) (Z _ _ Br rfl)
  ·intro A x W G U X o _ K Z;have bn:=gv G o 3 24;have bl:=gv G o 7 28;clear o G;go_simp
   refine(aU.out W (au.out.trans (U.mono (by omega)))).mono ?_;rintro e w' ⟨⟨r,rfl,ho⟩,I⟩;exact Z _ _ I ⟨r,rfl,ownsRow_le ho X⟩
  ·intro A x W G U X o _ K Z;have a4:(fun u W=> ∃r,u= .tuple #[r,.int .i64 0]∧W.ownsRow Y.heap.size 5 1 r 32 (V.map qt)) (x 29) W:=o ⟨8,.data⟩ (by simp) rfl _ rfl;have bd:A.tmps.getD 29 undef=x 29:=G.1 29 (by decide);clear o G;go_simp
   exact Z _ _ Br (bd▸a4)
  ·intro A x W G U X o _ K Z;have ap:(fun u W=> ∃r,u= .tuple #[r,.int .i64 0]∧W.ownsRow Y.heap.size 5 1 r 32 (V.map qt)) (x 20) W:=o ⟨9,.data⟩ (by simp) rfl _ rfl;have ao:A.tmps.getD 20 undef=x 20:=G.1 20 (by decide);clear o G;obtain⟨r,er,hr⟩:=ap;rw[er]at ao;go_simp
   exact Z _ _ Br hr
  ·intro A x W G U X o _ K Z;have ap:(fun u W=> ∃r,u= .tuple #[r,.int .i64 0]∧W.ownsRow Y.heap.size 5 1 r 32 (V.map qt)) (x 20) W:=o ⟨9,.data⟩ (by simp) rfl _ rfl;have ao:A.tmps.getD 20 undef=x 20:=G.1 20 (by decide);clear o G;obtain⟨r,er,hr⟩:=ap;rw[er]at ao;go_simp
   exact Z _ _ BR rfl
  ·intro A x W G U X o _ K Z;have a5:(fun u W=>W.ownsRow Y.heap.size 5 1 u 32 (V.map qt)) (x 30) W:=o ⟨10,.data⟩ (by simp) rfl _ rfl;have bc:A.tmps.getD 30 undef=x 30:=G.1 30 (by decide);clear o G;go_simp
   exact Z _ _ Br (bc▸a5)
 intro x W U X aR;obtain⟨aH,aI,aQ,e4, -⟩:=aR;change (fun u W=> ∃r,u= .tuple #[r,.int .i64 0]∧W.ownsRow Y.heap.size 5 1 r 32 (V.map qt)) (x 29) W at aH
 change (fun u W=> ∃r,u= .tuple #[r,.int .i64 0]∧W.ownsRow Y.heap.size 5 1 r 32 (V.map qt)) (x 20) W at aI
 change (fun u W=>W.ownsRow Y.heap.size 5 1 u 32 (V.map qt)) (x 30) W at aQ
 change (fun u W=>W.ownsRow Y.heap.size 5 1 u 32 (V.map qt)) (x 4) W at e4
 refine qw ?_;simp only[QF,Act.put,Ls];have aK:=Q7 e4;have aD:Below q w W:=au.out.trans (U.mono (by omega));have g0:=qg ag.out U;have r0:=qg R0.out U;have r1:=qg R1.out U;have ak:W.cell? ⟨J,0,none⟩=some (.int .i64 2):=qd g0 0;have af:J<W.heap.size:=(Ai g0).1;have bb:q+2≤W.heap.size:=by have:=U.size;omega
 have aF:=hid r0;have aP:=hid r1;have aJ:=hid aD;have ax:=hid aK;clear aH aI aQ e4 aK aD g0 r0 r1 U X R0 R1 au ag a3;go_wp2_with fail
 refine(qeY V _ _ ax.out aS.out aW.out).mono ?_;rintro e w1 ⟨rfl,ae⟩;rw[aV.out];have aZ:=ae.size;have k0:=qg aF.out ae;have k1:=qg aP.out ae;have aN:Below q w w1:=aJ.out.trans (ae.mono (by omega));have K0:=hid k0;have K1:=hid k1;have aG:=hid aN;clear k0 k1 aN ae aF aP aJ ax ak af;go_upto_region 13 with((with_reducible show wpList _ _ _ (Oper.mk none (Op.store 284 _ _) _ _ _ _::_) _ _);refine wpList_store_row rfl 284 _ _ rfl w1.heap.size (qj .u32 H) rfl rfl 284 _ (Wn _ _) (by rw[qf,O.out.1];kernel_rfl) (by rw[qf,O.out.1];rfl) qy ?_)
 refine qn ?_;intro W7 ad;obtain⟨bv,aj⟩:=Ex w1.heap.size;have m0:W7.heap[q]? =some (.cells #[.int .u64 0,.int .u64 0,.int .u64 0,.int .u64 0,.int .u64 0,.int .u64 0,.int .u64 0,.int .u64 0,.int .u64 0,.int .u64 0,.int .u64 0,.int .u64 0,.int .u64 0,.int .u64 0,.int .u64 0,.int .u64 0] 252 (0,0)):=by rw[ad];exact(setRow_other (w1.alloc _) _ _ _ (by omega)).trans ((Bh _ _ _ (by omega)).trans K0.out)
 have m1:W7.heap[q+1]? =some (.cells (qj .u64 (Qv H (qL Z8) 0)) 252 (0,0)):=by rw[ad];exact(setRow_other (w1.alloc _) _ _ _ (by omega)).trans ((Bh _ _ _ (by omega)).trans K1.out)
 have m2:W7.heap[bv]? =some (.cells (qj .u32 H) 284 (0,0)):=by rw[ad,←aj];exact setRow_heap _ _ _ _ _ _ (Wn _ _)
 have aA:Below q w W7:=by rw[ad];exact below_setRow (aG.out.alloc (by omega) _) (by omega) _
 have bf:bv<W7.heap.size:=(Ai m2).1;have bh:q+2≤bv:=by omega
 rw[aj];have M0:=hid m0;have M1:=hid m1;have M2:=hid m2;have a9:=hid aA;clear ad aj m0 m1 m2 aA K0 K1 aG aZ bb;go_wp2_with fail
 go_loopw [11] (fun i wr=> ∃j:Nat,i= .int .i64 (j:Nat)∧j≤8∧wr.heap[q+1]? =some (.cells (qj .u64 (Qv H (qL Z8) j)) 252 (0,0))∧But (q+1) W7 wr) (fun i _=>8 - (intOf i).toNat)
 case atStart=>exact⟨0,rfl,by omega,M1.out,But.refl _ _⟩
 case round=>
  obtain⟨j,rfl,hj,aa,I⟩:=hrel;have aT:=hid aa;have HB:=hid I;have be:bv<wr.heap.size:=by have:=I.size;omega
  have aq:(qL Z8).length=16:=rfl;by_cases az:j<8
  case pos=>
   have c0:wr.cell? ⟨bv,j,none⟩=some (.int .u32 (wd H j)):=by rw[qd ((I.block bv (by omega) (by omega)).trans M2.out) j,Ym (by rw[O.out.1];omega)]
   have aY:(Qv H (qL Z8) j).length=16:=by rw[yZ (by rw[O.out.1];omega) (by omega),aq]
   have c1:wr.cell? ⟨q+1,j,none⟩=some (.int .u64 (wd (Qv H (qL Z8) j) j)):=by rw[qd aa j,Ym (by omega)]
   have f1:=frozen_of_row wr (q+1) j _ _ aa;have ar:=heap_setCell_same wr (q+1) j _ _ (.int .u64 (wd H j)) aa;rw[Qe,zr (by rw[O.out.1];omega) (by omega)]at ar;have al:=yy O.out az;have bm:IntKind.u64.wrap (wd H j)=wd H j:=u64_wrap_id _ al.1 (by have:=al.2;simp at this;omega);have a7:=hid ar;have bk:(j:Int)<8:=by omega
   generalize wd (Qv H (qL Z8) j) j=zo at c1;generalize wd H j=zj at*;obtain⟨bi,bj⟩:=al;clear ar aY aa I aq;go_wp2
   exact⟨⟨j+1,rfl,by omega,a7.out,HB.out.set _ _⟩,by simp[intOf];omega⟩
  obtain rfl:j=8:=by omega
  rw[JN O.out.1 rfl]at aa;have n1:=(I.block q (by omega) (by omega)).trans M0.out;have ba:Below q w wr:=a9.out.trans (I.below (by omega) (by omega));have ac:=Qb (by decide) O.out;have bg:q+1<wr.heap.size:=by omega
  clear I aq hj az aT;go_wp2_with (first|((with_reducible show wpList _ _ _ (Oper.mk (some 67) _ _ _ _ _::_) _ _);refine wpList_load_row rfl 252 _ rfl (q+1) rfl _ _ _ _ aa Tryz.underlying252 rfl (by rw[qf,ac.1];kernel_rfl) ?_)|((with_reducible show wpList _ _ _ (Oper.mk none (Op.store 252 _ _) _ _ _ _::_) _ _);refine wpList_store_row rfl 252 _ _ rfl q (qj .u64 (qL H)) rfl rfl 252 _ n1 (by rw[qf,ac.1];kernel_rfl) (by rw[qf,ac.1];rfl) qy ?_))
  exact Bp (results_cell_row rfl _ _ q 252 _ _ _ rfl (setRow_heap _ _ _ _ _ _ n1) Tryz.underlying252 rfl (by rw[qf,ac.1];kernel_rfl)) rfl ⟨rfl,by rw[ab];exact below_setRow ba Nl _⟩
structure TreeOk (t:TreeV)(kz z1 z2:List Int)(w:World):Prop where
 v:t.validE=0
 l:0≤t.l∧t.l≤4294967295
 k:Hold w (.slice t.ka t.kl t.kc) kz
 s:Hold w (.slice t.sa t.sl t.sc) z1
 p:Hold w (.slice t.pa t.pl t.pc) z2
theorem TreeOk.below {t:TreeV}{q z1 z2:List Int}{w w':World}(h:TreeOk t q z1 z2 w)(o:Below w.heap.size w w'):TreeOk t q z1 z2 w':=⟨h.v,h.l,h.k.below o,h.s.below o,h.p.below o⟩
theorem qbG {w:World}{a:Option Addr}{n c:Nat}{zs:List Int}(h:Hold w (.slice a n c) zs):zs.length=n:=by
 obtain⟨o,q,e, -, -⟩:=h.slice;simp only[Value.slice.injEq]at e;exact e.2.1.symm
def TreeV.node (t:TreeV)(kz z1 z2:List Int)(row i:Nat)(la rt:Bool)(d:List Int):List Int:=Ja t.big (t.blk z1 z2 row i) (Za row kz) la (t.outN rt) d
theorem yQ (t:TreeV)(q z1 z2:List Int)(row i:Nat)(la rt:Bool)(d:List Int): ∀a∈t.node q z1 z2 row i la rt d,0≤a∧a≤255:=fun a o=>qd1 _ _ _ _ a (List.mem_of_mem_take o)
theorem qdf (big:Bool)(q r ds:List Int)(la:Bool)(o:Int)(J I G:Value)(w:World)(X:Hold w J q)(V:Hold w I r)(Y:Hold w G ds)(U:(ds.length:Int)≤140737488355200)(O:okD big false q)(D:YQ q r=false)(Z:1≤o∧o≤(mB big:Nat)):
  Calls Tryz.prog 60 #[.agg (yW (kB big) J I la o G)] w fun e w'=>qbW big q r la o ds w e w':=by
 cases big
 ·exact qfB q r ds la o J I G w X V Y U O D Z
 ·exact qgN q r ds la o J I G w X V Y U O D Z
theorem TreeOk.okD {t:TreeV}{q z1 z2:List Int}{w:World}(h:TreeOk t q z1 z2 w){row at_:Nat}(I:row≤255)(J:at_<281474976710656):
  Go.Proofs.YthjoojnlnlmljaaGreat.okD t.big false (t.blk z1 z2 row at_)∧YQ (t.blk z1 z2 row at_) (Za row q)=false∧(∀z∈t.blk z1 z2 row at_,0≤z∧z≤255)∧ ∀rt:Bool,1≤t.outN rt∧t.outN rt≤(mB t.big:Nat):=by
 have o:=qo h.v;have O:=YI h.v;have V:=qbG h.s;have X:=qbG h.p;have Z:=qbG h.k;obtain⟨G,r⟩:=qiu (z1:=z1) (z2:=z2) (js h.v h.l I J) (by omega) (by omega);refine⟨G,?_,jn h.s.1 h.p.1,fun rt=>?_⟩
 ·have D:qr (t.blk z1 z2 row at_) 1=(t.kl:Int):=r;unfold YQ Za;rw[D];refine decide_eq_false ?_;split
  ·omega
  ·simp
 ·obtain⟨-,d1,d2,U,Y, -⟩:=o
  cases rt
  ·show 1≤t.i∧t.i≤_;omega
  ·show 1≤t.d∧t.d≤_;omega
theorem qiw {t:TreeV}{o z1 z2:List Int}{w:World}(h:TreeOk t o z1 z2 w){row at_:Nat}(hr:row≤255)(ha:at_<281474976710656)(la rt:Bool)(ds:List Int)(r G D:Value)(W:World)(b:Nat)
  (ho:W.ownsRow b 5 1 G (mB t.big) ((t.blk z1 z2 row at_).map qt)) (U:W.ownsRow b 5 1 D (Za row o).length ((Za row o).map qt)) (O:Hold W r ds) (hl:ds.length≤1073741824):
  Calls Tryz.prog 60 #[.agg (yW t.k G D la (t.outN rt) r)] W fun e w'=> ∃u,e= .returned (.tuple #[u,.int .i64 0])∧OwnB W.heap.size w' u (t.node o z1 z2 row at_ la rt ds)∧Below W.heap.size W w':=by
 obtain⟨Z,V,Y,X⟩:=h.okD hr ha;have I: ∀z∈Za row o,0≤z∧z≤255:=fun z q=>by
  unfold Za at q;split at q
  ·exact h.k.1 z q
  ·cases q
 rw[←YJ h.v];refine(qdf t.big _ _ ds la _ G D r W (Qq ho Y) (Qq U I) O (by omega) Z V (X rt)).mono ?_;rintro e w' ⟨⟨u,rfl,hu⟩,J⟩
 exact⟨u,rfl,⟨yQ t o z1 z2 row at_ la rt ds,hu⟩,J⟩
def TreeV.rowZ (t:TreeV)(kz z1 z2:List Int)(row:Nat)(rt:Bool)(L:List (List Int))(m:Nat):List (List Int):=(List.range m).map fun i=>t.node kz z1 z2 row i (decide (i+1=L.length)) rt (qK L i)
theorem zf (t:TreeV)(o z1 z2:List Int)(row:Nat)(rt:Bool)(L:List (List Int))(m:Nat):t.rowZ o z1 z2 row rt L (m+1)=t.rowZ o z1 z2 row rt L m++[t.node o z1 z2 row m (decide (m+1=L.length)) rt (qK L m)]:=by simp[TreeV.rowZ,List.range_succ]
theorem TreeV.rowZ_length (t:TreeV)(o z1 z2:List Int)(row:Nat)(rt:Bool)(L:List (List Int))(m:Nat):(t.rowZ o z1 z2 row rt L m).length=m:=by simp[TreeV.rowZ]
theorem qbN {n:Nat}(zs:List Int)(q:1≤n):1≤(yV n zs).length∧(yV n zs).length≤zs.length+1:=by
 unfold yV;split
 ·exact⟨Nat.le_refl _,by simp⟩
 ·rename_i h;have o:=List.length_pos_iff.2 h;rw[Qu];have:=Yl (n:=zs.length) q
  have:=jm (d:=n) (show 1≤zs.length from o)
  omega
theorem qem {n:Nat}(zs:List Int)(i:Nat):(qK (yV n zs) i).length≤zs.length:=by
 unfold yV;split
 ·cases i<;>simp[qK]
 ·unfold qK z9;rw[Lg,List.getElem?_map]
  cases(List.range (qR zs.length n))[i]? with
  | none=>simp
  | some j=>exact(J7 n zs j).length_le
end Go.Proofs.YthjoojnlnlmljaaGreat
namespace Go.Proofs.YthjoojnlnlmljaaGreat
open Go.ChangeShapes Go.WideShapes Go.ChangeAt Go.RowKit Go.Joins Go.Shelf Go.Maps
open Go.Lib (hid)
def TreeV.lvlZ (t:TreeV)(kz z1 z2:List Int)(L0:List (List Int)):Nat→List (List Int)
 | 0=>L0
 | r+1=>t.rowZ kz z1 z2 (r+1) (t.rootZ (r+1) (t.lvlZ kz z1 z2 L0 r).length) (t.upZ (r+1) (t.lvlZ kz z1 z2 L0 r)) (t.upZ (r+1) (t.lvlZ kz z1 z2 L0 r)).length
def TreeV.topAt (t:TreeV)(kz z1 z2:List Int)(L0:List (List Int))(R:Nat):Prop:=1≤R∧t.rootZ R (t.lvlZ kz z1 z2 L0 (R - 1)).length=true∧ ∀q,1≤q→q<R→t.rootZ q (t.lvlZ kz z1 z2 L0 (q - 1)).length=false
theorem qaS {t:TreeV}{q z1 z2:List Int}{r:List (List Int)}{R S:Nat}(h:t.topAt q z1 z2 r R)(k:t.topAt q z1 z2 r S):R=S:=by
 rcases Nat.lt_trichotomy R S with o|o|o
 ·have:=k.2.2 R h.1 o;rw[h.2.1]at this;cases this
 ·exact o
 ·have:=h.2.2 S k.1 o;rw[k.2.1]at this;cases this
theorem qao {t:TreeV}{row n:Nat}(h:(row:Int)=t.p - 1):t.rootZ row n=true:=decide_eq_true (.inr (.inl h))
theorem ZJ {t:TreeV}(h:t.validE=0){row n:Nat}(o:t.rootZ row n=false):2≤t.fn∧t.fn<n∧t.fn≤255:=by
 have r:=(qo h).2.2.2.2.2.1;have q: ¬(t.f=0∨(row:Int)=t.p - 1∨(n:Int)≤t.f):=of_decide_eq_false o;unfold TreeV.fn;omega
theorem Zb {t:TreeV}(h:t.validE=0)(row:Nat){L:List (List Int)}(q:L≠[]):1≤(t.upZ row L).length∧(t.upZ row L).length≤L.length:=by
 have o:=List.length_pos_iff.2 q;unfold TreeV.upZ
 cases hr:t.rootZ row L.length with
 | true=>exact⟨Nat.le_refl _,o⟩
 | false=>
  have:=ZJ h hr
  rw[if_neg (by simp),QJ];exact⟨jm o,Yl (by omega)⟩
theorem jq (t:TreeV)(row:Nat)(L:List (List Int))(i:Nat):(qK (t.upZ row L) i).length≤L.flatten.length:=by
 unfold TreeV.upZ;split
 ·cases i<;>simp[qK]
 ·unfold qK ZM;rw[Lg,List.getElem?_map]
  cases(List.range (qR L.length t.fn))[i]? with
  | none=>simp
  | some j=>exact YE (J7 t.fn L j)
theorem qbT (t:TreeV)(o z1 z2:List Int)(row i:Nat)(la rt:Bool)(d:List Int):(t.node o z1 z2 row i la rt d).length≤64:=by
 have r:(zA t.big (h0Z t.big (t.blk z1 z2 row i)) (yv (bB t.big) (Za row o)++d) la).length=mB t.big:=zP _ _ _ _;have q:mB t.big≤64:=by cases t.big<;>decide
 unfold TreeV.node Ja;rw[List.length_take];omega
theorem ZN (t:TreeV)(q z1 z2:List Int)(row:Nat)(rt:Bool)(L:List (List Int))(m:Nat): ∀z∈t.rowZ q z1 z2 row rt L m,z.length≤64:=fun z o=>by
 obtain⟨i, -,rfl⟩:=List.mem_map.1 o;exact qbT ..
theorem YX: ∀{L:List (List Int)},(∀z∈L,z.length≤64)→L.flatten.length≤64*L.length
 | [],_=>Nat.le_refl _
 | z::L,h=>by
  have r:=h z (List.mem_cons_self ..);have q:=YX (L:=L) (fun y o=>h y (List.mem_cons_of_mem _ o));simp only[List.flatten_cons,List.length_append,List.length_cons];omega
theorem Qk {t:TreeV}(h:t.validE=0)(q z1 z2:List Int){o:List (List Int)}(D:o≠[])(G: ∀z∈o,z.length≤64): ∀r,t.lvlZ q z1 z2 o r≠[]∧(t.lvlZ q z1 z2 o r).length≤o.length∧ ∀z∈t.lvlZ q z1 z2 o r,z.length≤64
 | 0=>⟨D,Nat.le_refl _,G⟩
 | r+1=>by
  obtain⟨J,X,U⟩:=Qk h q z1 z2 D G r;have V:=Zb h (r+1) J;have O:(t.lvlZ q z1 z2 o (r+1)).length=(t.upZ (r+1) (t.lvlZ q z1 z2 o r)).length:=TreeV.rowZ_length ..;exact⟨List.length_pos_iff.1 (by omega),by omega,fun z I=>ZN _ _ _ _ _ _ _ _ z I⟩
end Go.Proofs.YthjoojnlnlmljaaGreat
namespace Go.Proofs.YthjoojnlnlmljaaGreat
open Go.ChangeShapes Go.WideShapes Go.ChangeAt Go.RowKit Go.Joins Go.Shelf Go.Maps
open Go.Lib (hid)
attribute [local go_sem] Oper.semAt_some
theorem ListO.get {B:Nat}{w:World}{v:Value}{L:List (List Int)}(h:ListO B w v L){i:Nat}(G:i<L.length): ∃g o x,v= .slice (some ⟨g,0,none⟩) L.length o∧g<w.heap.size∧w.cell? ⟨g,i,none⟩=some x∧OwnB B w x (qK L i):=by
 obtain⟨vs,r,J⟩:=h;have X:vs.length=L.length:=by have:=r.1;simpa using this
 rcases r.2 with⟨rfl,O⟩|⟨g,o,D,rfl,Y,q,V,U,Z,I⟩
 ·omega
 ·refine⟨g,o,vs.getD i undef,rfl,(Ai q).1,?_,J i G⟩;rw[qd q i];have e:D.toList[i]? =vs[i]? :=by rw[←I,List.getElem?_take,if_pos (by omega)]
  rw[←Array.getElem?_toList,e,Lg,List.getElem?_eq_getElem (by omega)];rfl
structure CallS where
 k:Int
 bs:List Int
 kz:List Int
 la:Bool
 o:Int
 ds:List Int
def CallS.zero:CallS:=⟨0,[],[],false,0,[]⟩
def KeepH (w0:World)(B:Nat)(w:World)(v:Value)(z:List Int):Prop:=OwnB B w v z∨Hold w0 v z∧Below w0.heap.size w0 w
theorem KeepH.hold {w0 w:World}{B:Nat}{v:Value}{z:List Int}(h:KeepH w0 B w v z):Hold w v z:=by
 rcases h with h|⟨h,o⟩
 ·exact h.hold
 ·exact h.below o
theorem KeepH.kb {w0 w w':World}{B b:Nat}{v:Value}{z:List Int}(h:KeepH w0 B w v z)(q:w0.heap.size≤b)(k:KB b w w'):KeepH w0 B w' v z:=by
 rcases h with h|⟨h,o⟩
 ·exact .inl (h.kb k)
 ·exact .inr ⟨h,o.trans (k.below.mono q)⟩
theorem KeepH.le {w0 w:World}{B b:Nat}{v:Value}{z:List Int}(h:KeepH w0 B w v z)(o:b≤B):KeepH w0 b w v z:=by
 rcases h with h|h
 ·exact .inl (h.le o)
 ·exact .inr h
def CallAt (w0:World)(B:Nat)(w:World)(s:CallS)(c:List Value):Prop:=
 ∃a1 n1 c1 a2 n2 c2 a3 n3 c3,c=[.int .i64 s.k,.slice a1 n1 c1,.slice a2 n2 c2,.bool s.la,.int .i64 s.o,.slice a3 n3 c3]∧OwnB B w (.slice a1 n1 c1) s.bs∧KeepH w0 B w (.slice a2 n2 c2) s.kz∧KeepH w0 B w (.slice a3 n3 c3) s.ds
theorem CallAt.kb {w0 w w':World}{B b:Nat}{s:CallS}{c:List Value}(h:CallAt w0 B w s c)(o:w0.heap.size≤b)(k:KB b w w'):CallAt w0 B w' s c:=by
 obtain⟨a1,q,c1,a2,G,c2,r,I,U,e,O,D,J⟩:=h;exact⟨a1,q,c1,a2,G,c2,r,I,U,e,O.kb k,D.kb o k,J.kb o k⟩
theorem CallAt.le {w0 w:World}{B b:Nat}{s:CallS}{c:List Value}(h:CallAt w0 B w s c)(o:b≤B):CallAt w0 b w s c:=by
 obtain⟨a1,q,c1,a2,G,c2,r,I,U,e,O,D,J⟩:=h;exact⟨a1,q,c1,a2,G,c2,r,I,U,e,O.le o,D.le o,J.le o⟩
def CallsO (w0:World)(B:Nat)(w:World)(v:Value)(S:List CallS):Prop:=
 ∃cs:List (List Value),cs.length=S.length∧w.ownsRow B 73 6 v S.length cs.flatten∧ ∀i,i<S.length→CallAt w0 B w (S.getD i .zero) (cs.getD i [])
theorem CallsO.nil (w0:World)(B:Nat)(w:World):CallsO w0 B w (.slice none 0 0) []:=⟨[],rfl,Wo _ _ _ _,fun i o=>by simp at o⟩
theorem CallsO.kb {w0 w w':World}{B b:Nat}{v:Value}{S:List CallS}(h:CallsO w0 B w v S)(G:w0.heap.size≤b)(k:KB b w w')(V: ∀g,v.ownBlock=some g→w'.heap[g]? =w.heap[g]?):CallsO w0 B w' v S:=by
 obtain⟨cs,O,q,X⟩:=h;refine⟨cs,O,⟨q.1,?_⟩,fun i I=>(X i I).kb G k⟩;rcases q.2 with o|⟨g,r,D,rfl,U,o,J⟩
 ·exact .inl o
 ·exact .inr ⟨g,r,D,rfl,U,by rw[V g rfl];exact o,J⟩
theorem qm {w:World}{B T n s:Nat}{v:Value}{xs:List Value}(r:w.ownsRow B T s v n xs): ∀g,v.ownBlock=some g→g<w.heap.size:=by
 intro g o;rcases r.2 with⟨rfl, -⟩|⟨I,G,D,rfl, -,q, -⟩
 ·cases o
 ·simp only[Value.ownBlock,Option.some.injEq]at o;subst o;exact(Ai q).1
theorem CallsO.below {w0 w w':World}{B:Nat}{v:Value}{S:List CallS}(h:CallsO w0 B w v S)(o:w0.heap.size≤w.heap.size)(k:Below w.heap.size w w'):CallsO w0 B w' v S:=by
 refine h.kb o (KB.of_below k Nl) fun g r=>?_
 obtain⟨cs, -,q, -⟩:=h;exact k.block g (qm q g r)
theorem CallsO.le {w0 w:World}{B b:Nat}{v:Value}{S:List CallS}(h:CallsO w0 B w v S)(o:b≤B):CallsO w0 b w v S:=by
 obtain⟨cs,q,D,r⟩:=h;exact⟨cs,q,ownsRow_le D o,fun i G=>(r i G).le o⟩
theorem qI {α:Type}(L:List α)(x d:α)(i:Nat):(L++[x]).getD i d=if i<L.length then L.getD i d else if i=L.length then x else d:=by
 simp only[Lg];by_cases h:i<L.length
 ·rw[List.getElem?_append_left h,if_pos h]
 ·rw[if_neg h,List.getElem?_append_right (by omega)];by_cases o:i=L.length
  ·subst o;simp
  ·rw[if_neg o,List.getElem?_eq_none (by simp;omega)];rfl
theorem CallsO.snoc {w0 w w':World}{B:Nat}{v':Value}{S:List CallS}{s:CallS}{cs:List (List Value)}{c:List Value}(G: ∀i,i<S.length→CallAt w0 B w (S.getD i .zero) (cs.getD i []))(o:cs.length=S.length)(D:CallAt w0 B w s c)
  (J:w'.ownsRow B 73 6 v' (S.length+1) (cs.flatten++c)) (q:w0.heap.size≤B) (r:KB B w w'):CallsO w0 B w' v' (S++[s]):=by
 refine⟨cs++[c],by simp[o],by simpa using J,fun i I=>?_⟩;simp only[List.length_append,List.length_singleton]at I;rw[qI,qI,o];by_cases h:i<S.length
 ·rw[if_pos h,if_pos h];exact(G i h).kb q r
 ·rw[if_neg h,if_neg h,if_pos (by omega),if_pos (by omega)];exact D.kb q r
theorem yg {W W':World}{B1 B2 G D X s2 U V:Nat}{J I:Value}{x1 x2:List Value}(Y:W.ownsRow B1 G X J U x1)(r:W.ownsRow B2 D s2 I V x2)(O:G≠D)(h:Spare (fun k=>J.ownBlock≠some k) W W'): ∀g,I.ownBlock=some g→W'.heap[g]? =W.heap[g]? :=by
 intro g o;refine h.block g (qm r g o) fun e=>?_
 rcases Y.2 with⟨rfl, -⟩|⟨g1,k1,c1,rfl, -,Z, -⟩
 ·cases e
 rcases r.2 with⟨rfl, -⟩|⟨g2,k2,c2,rfl, -,q, -⟩
 ·cases o
 simp only[Value.ownBlock,Option.some.injEq]at e o;subst e o;rw[Z]at q;simp only[Option.some.injEq,Obj.cells.injEq]at q;exact O q.2.1
theorem qF {W W':World}{B T s n:Nat}{v:Value}{xs:List Value}(h:W.ownsRow B T s v n xs)(I: ∀g,v.ownBlock=some g→W'.heap[g]? =W.heap[g]?):W'.ownsRow B T s v n xs:=by
 refine⟨h.1,?_⟩;rcases h.2 with o|⟨g,r,q,rfl,G,o,D⟩
 ·exact .inl o
 ·exact .inr ⟨g,r,q,rfl,G,by rw[I g rfl];exact o,D⟩
theorem Qg {W:World}{B T s n:Nat}{v:Value}{xs:List Value}(h:W.ownsRow B T s v n xs): ∃a n c,v= .slice a n c:=by
 rcases h.2 with⟨rfl, -⟩|⟨g,q,o,rfl, -⟩
 ·exact⟨_,_,_,rfl⟩
 ·exact⟨_,_,_,rfl⟩
def LevO (w0:World)(B:Nat)(w:World)(v:Value)(SS:List (List CallS)):Prop:=
 ∃vs:List Value,w.ownsRow B 111 1 v SS.length vs∧ ∀i,i<SS.length→CallsO w0 B w (vs.getD i undef) (SS.getD i [])
theorem LevO.nil (w0:World)(B:Nat)(w:World):LevO w0 B w (.slice none 0 0) []:=⟨[],Wo _ _ _ _,fun i o=>by simp at o⟩
theorem LevO.below {w0 w w':World}{B:Nat}{v:Value}{o:List (List CallS)}(h:LevO w0 B w v o)(r:w0.heap.size≤w.heap.size)(k:Below w.heap.size w w'):LevO w0 B w' v o:=by
 obtain⟨vs,D,q⟩:=h;exact⟨vs,qi D (fun g _ I=>k.block g I),fun i G=>(q i G).below r k⟩
theorem LevO.le {w0 w:World}{B b:Nat}{v:Value}{o:List (List CallS)}(h:LevO w0 B w v o)(q:b≤B):LevO w0 b w v o:=by
 obtain⟨vs,D,r⟩:=h;exact⟨vs,ownsRow_le D q,fun i G=>(r i G).le q⟩
theorem LevO.snoc {w0 w w':World}{B:Nat}{v v' x:Value}{o:List (List CallS)}{S:List CallS}{vs:List Value}(r:w.ownsRow B 111 1 v o.length vs)(Y: ∀i,i<o.length→CallsO w0 B w (vs.getD i undef) (o.getD i []))(V:CallsO w0 B w x S)
  (D:w'.ownsRow B 111 1 v' (o.length+1) (vs++[x])) (G:w0.heap.size≤B) (O:KB B w w') (q:Spare (fun k=>v.ownBlock≠some k) w w'):LevO w0 B w' v' (o++[S]):=by
 have X:vs.length=o.length:=by have:=r.1;simpa using this
 have one: ∀u S,CallsO w0 B w u S→CallsO w0 B w' u S:=fun u S h=>by
  refine h.kb G O fun g J=>?_
  obtain⟨cs, -,U, -⟩:=h;exact yg r U (by decide) q g J
 refine⟨vs++[x],by simpa using D,fun i I=>?_⟩;simp only[List.length_append,List.length_singleton]at I;rw[qI,qI,X];by_cases h:i<o.length
 ·rw[if_pos h,if_pos h];exact one _ _ (Y i h)
 ·rw[if_neg h,if_neg h,if_pos (by omega),if_pos (by omega)];exact one _ _ V
theorem qae:(Tryz.prog.info? 73).map (fun i=>(i.zero,i.size,i.bytes))=some (some (.agg #[.int .i64 0,.slice none 0 0,.slice none 0 0,.bool false,.int .i64 0,.slice none 0 0]),6,96):=by kernel_rfl
theorem Jn:(Tryz.prog.info? 111).map (fun i=>(i.zero,i.size,i.bytes))=some (some (.slice none 0 0),1,24):=by kernel_rfl
theorem jV {ops:Array Oper}{r:List Oper}{o:Oper}{q:Act}{w:World}{Q:Exit→Act→World→Prop}(hg:o.guard=none)(x:Operand)(ho:o.op= .buildSlice 111 1 #[(0,x)])(O V J I U G:Value)(hx:q.eval x= .agg #[O,V,J,I,U,G])
  (h:wpList Tryz.prog ops Q r (q.put o.dst (.slice (some ⟨w.heap.size,0,none⟩) 1 1)) (w.alloc (.cells #[O,V,J,I,U,G] 73))):wpList Tryz.prog ops Q (o::r) q w:=by
 obtain⟨Z,Y,X,D, -⟩:=info_parts qae;exact wpList_buildSlice hg 111 73 1 _ ho #[O,V,J,I,U,G] Z _ Tryz.underlying111 Y X (by rw[D];decide) (by rw[D];decide) (by rw[D,show Array.range (1*6)= #[0,1,2,3,4,5] by decide];simp[hx,Instr.fill,Value.cells]) h
theorem jU {ops:Array Oper}{q:List Oper}{o:Oper}{D:Act}{w:World}{Q:Exit→Act→World→Prop}(O:o.guard=none)(x:Operand)(V:o.op= .buildSlice 114 1 #[(0,x)])(a:Option Addr)(n k:Nat)(J:D.eval x= .slice a n k)
  (h:wpList Tryz.prog ops Q q (D.put o.dst (.slice (some ⟨w.heap.size,0,none⟩) 1 1)) (w.alloc (.cells #[.slice a n k] 111))):wpList Tryz.prog ops Q (o::q) D w:=by
 obtain⟨U,I,G,r, -⟩:=info_parts Jn;exact wpList_buildSlice O 114 111 1 _ V #[.slice a n k] U _ Tryz.underlying114 I G (by rw[r];decide) (by rw[r];decide) (by rw[r,show Array.range (1*1)= #[0] by decide];simp[J,Instr.fill,Value.cells]) h
def TreeV.callS (t:TreeV)(kz z1 z2:List Int)(row i:Nat)(la rt:Bool)(d:List Int):CallS:=⟨t.k,t.blk z1 z2 row i,Za row kz,la,t.outN rt,d⟩
def TreeV.rowC (t:TreeV)(kz z1 z2:List Int)(row:Nat)(rt:Bool)(L:List (List Int))(m:Nat):List CallS:=(List.range m).map fun i=>t.callS kz z1 z2 row i (decide (i+1=L.length)) rt (qK L i)
theorem zg (t:TreeV)(o z1 z2:List Int)(row:Nat)(rt:Bool)(L:List (List Int))(m:Nat):t.rowC o z1 z2 row rt L (m+1)=t.rowC o z1 z2 row rt L m++[t.callS o z1 z2 row m (decide (m+1=L.length)) rt (qK L m)]:=by simp[TreeV.rowC,List.range_succ]
theorem qQ (t:TreeV)(o z1 z2:List Int)(row:Nat)(rt:Bool)(L:List (List Int))(m:Nat):(t.rowC o z1 z2 row rt L m).length=m:=by simp[TreeV.rowC]
def TreeV.leafZ (t:TreeV)(kz z1 z2 zs:List Int):List (List Int):=t.rowZ kz z1 z2 0 false (yV t.ln zs) (yV t.ln zs).length
theorem Qt {t:TreeV}(h:t.validE=0)(G:0≤t.l∧t.l≤4294967295)(o z1 z2 zs:List Int):t.leafZ o z1 z2 zs≠[]∧(t.leafZ o z1 z2 zs).length≤zs.length+1∧ ∀z∈t.leafZ o z1 z2 zs,z.length≤64:=by
 have q:1≤t.ln:=by
  have:=(qo h).2.2.2.2.2.2.2.2.1
  unfold TreeV.ln;omega
 have I:=qbN zs q;have D:(t.leafZ o z1 z2 zs).length=(yV t.ln zs).length:=TreeV.rowZ_length ..;exact⟨List.length_pos_iff.1 (by omega),by omega,fun z r=>ZN _ _ _ _ _ _ _ _ z r⟩
structure Tend (F:Nat→Prop)(w w':World):Prop where
 sp:Spare (fun k=> ¬F k) w w'
 bytes: ∀(k:Nat) (c:Array Value),w.heap[k]? =some (.cells c 5 (0,0))→w'.heap[k]? =some (.cells c 5 (0,0))
theorem OwnB.tend {B:Nat}{w w':World}{x:Value}{z:List Int}(h:OwnB B w x z)(I: ∀(k:Nat) (c:Array Value),w.heap[k]? =some (.cells c 5 (0,0))→w'.heap[k]? =some (.cells c 5 (0,0))):OwnB B w' x z:=by
 refine⟨h.1,?_⟩;rcases h.2 with h|⟨g,q,o,e,G,r,D⟩
 ·exact .inl h
 ·exact .inr ⟨g,q,o,e,G,I _ _ r,D⟩
theorem ListO.tend {B:Nat}{w w':World}{v:Value}{L:List (List Int)}(h:ListO B w v L)(q: ∀(k:Nat) (c:Array Value),w.heap[k]? =some (.cells c 5 (0,0))→w'.heap[k]? =some (.cells c 5 (0,0)))(G: ∀g,v.ownBlock=some g→w'.heap[g]? =w.heap[g]?):ListO B w' v L:=by
 obtain⟨vs,r,o⟩:=h;exact⟨vs,qF r G,fun i D=>(o i D).tend q⟩
theorem ListO.block_lt {B:Nat}{w:World}{v:Value}{L:List (List Int)}(h:ListO B w v L): ∀g,v.ownBlock=some g→g<w.heap.size:=by
 obtain⟨vs,o, -⟩:=h;exact qm o
structure Seer (t:TreeV)(kz z1 z2:List Int)(w0:World)(fk bl:Nat)(I:List (List CallS)→List CallS→(Nat→Prop)→World→Prop):Prop where
 lt: ∀{done cur F w},I done cur F w→ ∀k,F k→w0.heap.size≤k∧k<w.heap.size
 keep: ∀{done cur F w w'},I done cur F w→Below w0.heap.size w w'→(∀k,F k→w'.heap[k]? =w.heap[k]?)→(∀(k:Nat) (c:Array Value),w.heap[k]? =some (.cells c 5 (0,0))→w'.heap[k]? =some (.cells c 5 (0,0)))→I done cur F w'
 next: ∀{done cur F w},cur≠[]→I done cur F w→I (done++[cur]) [] F w
 see: ∀{done cur F w} {row i:Nat} {la rt:Bool} {d:List Int} {bv kv dv:Value},I done cur F w→done.length=row→row≤255→i≤8388608→(∀l∈done,l.length≤8388608)→cur.length≤8388608→Below w0.heap.size w0 w→
  w.ownsRow w0.heap.size 5 1 bv (mB t.big) ((t.blk z1 z2 row i).map qt)→w.ownsRow w0.heap.size 5 1 kv (Za row kz).length ((Za row kz).map qt)→OwnB w0.heap.size w dv d→d.length≤1073741824→
  Calls Tryz.prog fk #[.agg (yW t.k bv kv la (t.outN rt) dv),.int .i64 (row:Nat),.pointer (some ⟨bl,0,none⟩)] w fun e w'=> ∃u F',e= .returned u∧OwnB w.heap.size w' u (t.node kz z1 z2 row i la rt d)∧(∀k,F' k→F k∨w.heap.size≤k)∧I done (cur++[t.callS kz z1 z2 row i la rt d]) F' w'∧Tend F w w'
def TreeV.dataR (t:TreeV)(kz z1 z2 zs:List Int):Nat→List (List Int)
 | 0=>yV t.ln zs
 | r+1=>t.upZ (r+1) (t.lvlZ kz z1 z2 (t.leafZ kz z1 z2 zs) r)
def TreeV.rtR (t:TreeV)(kz z1 z2 zs:List Int):Nat→Bool
 | 0=>false
 | r+1=>t.rootZ (r+1) (t.lvlZ kz z1 z2 (t.leafZ kz z1 z2 zs) r).length
def TreeV.callsR (t:TreeV)(kz z1 z2 zs:List Int)(r:Nat):List CallS:=t.rowC kz z1 z2 r (t.rtR kz z1 z2 zs r) (t.dataR kz z1 z2 zs r) (t.dataR kz z1 z2 zs r).length
def TreeV.allC (t:TreeV)(kz z1 z2 zs:List Int)(m:Nat):List (List CallS):=(List.range m).map (t.callsR kz z1 z2 zs)
theorem TreeV.lvl_is (t:TreeV)(o z1 z2 zs:List Int)(r:Nat):t.lvlZ o z1 z2 (t.leafZ o z1 z2 zs) r=t.rowZ o z1 z2 r (t.rtR o z1 z2 zs r) (t.dataR o z1 z2 zs r) (t.dataR o z1 z2 zs r).length:=by
 cases r<;>rfl
theorem TreeV.allC_succ (t:TreeV)(o z1 z2 zs:List Int)(m:Nat):t.allC o z1 z2 zs (m+1)=t.allC o z1 z2 zs m++[t.callsR o z1 z2 zs m]:=by simp[TreeV.allC,List.range_succ]
theorem TreeV.allC_length (t:TreeV)(o z1 z2 zs:List Int)(m:Nat):(t.allC o z1 z2 zs m).length=m:=by simp[TreeV.allC]
theorem YK {t:TreeV}(h:t.validE=0)(J:0≤t.l∧t.l≤4294967295)(o z1 z2 zs:List Int)(r:Nat):1≤(t.dataR o z1 z2 zs r).length∧(t.dataR o z1 z2 zs r).length≤zs.length+1∧ ∀i,(qK (t.dataR o z1 z2 zs r) i).length≤64*(zs.length+1):=by
 have G:=Qt h J o z1 z2 zs;have I:1≤t.ln:=by
  have:=(qo h).2.2.2.2.2.2.2.2.1
  unfold TreeV.ln;omega
 cases r with
 | zero=>
  have q:=qbN zs I;exact⟨q.1,q.2,fun i=>by have:=qem (n:=t.ln) zs i;show(qK (yV t.ln zs) i).length≤_;omega⟩
 | succ r=>
  have D:=Qk h o z1 z2 G.1 G.2.2 r;have q:=Zb h (r+1) D.1;refine⟨q.1,?_,fun i=>?_⟩
  ·show(t.upZ (r+1) _).length≤_;omega
  ·have O:=jq t (r+1) (t.lvlZ o z1 z2 (t.leafZ o z1 z2 zs) r) i;have U:=YX D.2.2;show(qK (t.upZ (r+1) _) i).length≤_
   omega
theorem Jv {ops:Array Oper}{J:List Oper}{o:Oper}{a:Act}{Q:Exit→Act→World→Prop}{W:World}(U:o.guard=none)(s x:Operand)
  (ho:o.op= .call { callee:= .builtin .append,args:= #[s,x],argTypes:= #[67,67] }) (B:Nat) (v:Value) (L:List (List Int)) (z:List Int) (u:Value) (hs:a.eval s=v) (hl:ListO B W v L) (Y:OwnB B W u z)
  (hx:a.eval x= .slice (some ⟨W.heap.size,0,none⟩) 1 1) (ag:L.length≤8388608) (hB:B≤W.heap.size)
  (h: ∀v' w',ListO B w' v' (L++[z])→KB B W w'→Spare (fun k=>v.ownBlock≠some k) W w'→(v'.ownBlock=v.ownBlock∨ ∀g,v'.ownBlock=some g→W.heap.size≤g)→wpList Tryz.prog ops Q J (a.put o.dst v') w'):wpList Tryz.prog ops Q (o::J) a (W.alloc (.cells #[u] 24)):=by
 obtain⟨ib,ab,Z,af,ad⟩:=info_parts yH;obtain⟨vs,r,aa⟩:=hl;have X:vs.length=L.length:=by have:=r.1;simpa using this
 refine wpList_append_own_at _ U s x _ ho B 24 ib (.slice none 0 0) 1 24 Tryz.underlying67 ab Z af ad rfl (by decide) v L.length vs hs (r.alloc _) ⟨W.heap.size,0,none⟩ 1 1 [u] hx rfl (cell_one_new W u _) (by simpa using Y.one) (by unfold maxLen;omega) (by omega) (by simp;omega) fun v' w' h2 h3 _ D=>?_
 have q:Spare (fun k=>v.ownBlock≠some k) W w':=(Spare.of_below _ (Br.alloc Nl _)).trans (Spare.of_grown h3) (fun _ _ h=>h);have O:KB B W w':=⟨q.os,q.tape,q.output,q.size,fun k hk=>q.block k (by omega) (fun G=>by
   rcases r.2 with⟨rfl, -⟩|⟨g,ac,ae,rfl,h4, -⟩
   ·cases G
   ·simp only[Value.ownBlock,Option.some.injEq]at G;omega),fun k c I=>by
   rw[q.block k (Ai I).1 (fun G=>?_)]
   ·exact I
   ·rcases r.2 with⟨rfl, -⟩|⟨g,ac,ae,rfl, -,D, -⟩
    ·cases G
    ·simp only[Value.ownBlock,Option.some.injEq]at G;subst G;rw[D]at I;simp only[Option.some.injEq,Obj.cells.injEq]at I;exact absurd I.2.1 (by decide)⟩
 refine h v' w' (ListO.snoc (w:=W) (vs:=vs) aa X Y h2 O) O q ?_;rcases D with D|D
 ·exact .inl D
 ·exact .inr fun g V=>by rw[D]at V;simp only[World.alloc,Array.size_push,Option.some.injEq]at V;omega
theorem qg8 {t:TreeV}{o z1 z2 zs:List Int}{w0:World}{fk bl:Nat}{I:List (List CallS)→List CallS→(Nat→Prop)→World→Prop}(hS:Seer t o z1 z2 w0 fk bl I)(hT:TreeOk t o z1 z2 w0)(hn:zs.length≤4194304)(v:Value)(w:World)(F0:Nat→Prop)
  (hw:Below w0.heap.size w0 w) (hI:I [] [] F0 w) (hv:ListO w0.heap.size w v (yV t.ln zs)) (bo: ∀g,v.ownBlock=some g→ ¬F0 g) (cH: ∀(args:Array Value) (W:World),(callFunc fk args).run Tryz.prog W= .ok (.enter fk args) W):
  Calls Tryz.prog 107 #[t.val,v,.func (.func fk) #[] #[.pointer (some ⟨bl,0,none⟩)]] w fun e w'=>e= .returned (.tuple #[])∧(∃R F',t.topAt o z1 z2 (t.leafZ o z1 z2 zs) R∧I (t.allC o z1 z2 zs R) (t.callsR o z1 z2 zs R) F' w'∧ ∀k,F' k→F0 k∨w.heap.size≤k)∧Below w0.heap.size w w'∧Tend F0 w w':=by
 obtain⟨Y,ag⟩:=Ex w.heap.size;have bb:w0.heap.size≤Y:=by have:=hw.size;omega
 have HS:=hid hS;have HT:=hid hT;have HW:=hid hw;have HI:=hid hI;have HV:=hid hv;have cd:=hid bo;have a9:=hid (fun k J=>hS.lt hI k J);have a6:=hid (fun r=>YK hT.v hT.l o z1 z2 zs r);have ao:=Qt hT.v hT.l o z1 z2 zs;have bM:=hid (Qk hT.v o z1 z2 ao.1 ao.2.2);have bq:=hid ao.2.1;have hp:2≤t.p∧t.p≤255:=⟨(qo hT.v).2.2.2.2.2.2.1,(qo hT.v).2.2.2.2.2.2.2.1⟩;obtain⟨va,vc,rfl,cn,co, -⟩:=hv.hold;have bf:Below Y w (w.alloc (.cells #[.int .i64 t.k,.int .i64 t.d,.int .i64 t.f,.int .i64 t.p,.int .u32 t.l,.int .i64 t.i,.slice t.ka t.kl t.kc,.slice t.sa t.sl t.sc,.slice t.pa t.pl t.pc] 26)):=by rw[←ag];exact Br.alloc Nl _
 have an:=Wn w (.cells #[.int .i64 t.k,.int .i64 t.d,.int .i64 t.f,.int .i64 t.p,.int .u32 t.l,.int .i64 t.i,.slice t.ka t.kl t.kc,.slice t.sa t.sl t.sc,.slice t.pa t.pl t.pc] 26);rw[ag]at an;clear hS hT hw hI hv bo ao;unfold TreeV.val;go_enter Tryz.func107,Tryz.ntmps107
 go_upto_region 1 with(fail)
 generalize w.alloc (.cells #[.int .i64 t.k,.int .i64 t.d,.int .i64 t.f,.int .i64 t.p,.int .u32 t.l,.int .i64 t.i,.slice t.ka t.kl t.kc,.slice t.sa t.sl t.sc,.slice t.pa t.pl t.pc] 26)=wA at*;have bD:=hid an;have ad:=hid bf;have cw:Y<wA.heap.size:=(Ai an).1;clear an bf;go_wp2_with fail
 go_loopw [1,6,7] (fun d rt i wr=> ∃(r:Nat) (F:Nat→Prop),i= .int .i64 (r:Nat)∧(r:Int)≤t.p - 1∧rt= .bool (t.rtR o z1 z2 zs r)∧ListO w0.heap.size wr d (t.dataR o z1 z2 zs r)∧(∀g,d.ownBlock=some g→ ¬F g)∧I (t.allC o z1 z2 zs r) [] F wr∧(∀k,F k→F0 k∨Y<k)∧
   (∀q',1≤q'→q'<r→t.rootZ q' (t.lvlZ o z1 z2 (t.leafZ o z1 z2 zs) (q' - 1)).length=false)∧Below w0.heap.size w wr∧Tend F0 w wr∧wr.heap[Y]? =some (.cells #[.int .i64 t.k,.int .i64 t.d,.int .i64 t.f,.int .i64 t.p,.int .u32 t.l,.int .i64 t.i,.slice t.ka t.kl t.kc,.slice t.sa t.sl t.sc,.slice t.pa t.pl t.pc] 26 (0,0))) (fun _ _ i _=>256 - (intOf i).toNat)
 case atStart=>
  have aX:KB 0 w wA:=KB.of_below (ag▸ad.out) (Nat.zero_le _);exact⟨0,F0,rfl,by omega,rfl,HV.out.below (ag▸ad.out),cd.out,HS.out.keep HI.out (ad.out.mono bb) (fun k J=>ad.out.block k (by have:=(a9.out k J).2;omega)) aX.bytes,fun k J=> .inl J,fun q' h1 V=>by omega,ad.out.mono bb,⟨Spare.of_below _ (ag▸ad.out),aX.bytes⟩,bD.out⟩
 case round=>
  obtain⟨r,F,rfl,cB,rfl,hd,bm,aO,aA,aW,hb,ht,ab⟩:=hrel;rename World=>wq
  have aT:Below w0.heap.size w0 wq:=HW.out.trans hb;obtain⟨d1,d2,d3⟩:=a6.out r;have be:=t.lvl_is o z1 z2 zs r;have ba:t.callsR o z1 z2 zs r=t.rowC o z1 z2 r (t.rtR o z1 z2 zs r) (t.dataR o z1 z2 zs r) (t.dataR o z1 z2 zs r).length:=rfl;have bc: ∀b,t.rtR o z1 z2 zs r=b→(b=true→1≤r∧t.rootZ r (t.lvlZ o z1 z2 (t.leafZ o z1 z2 zs) (r - 1)).length=true)∧(b=false→1≤r→t.rootZ r (t.lvlZ o z1 z2 (t.leafZ o z1 z2 zs) (r - 1)).length=false):=by
   intro b hb;subst hb
   cases r with
   | zero=>exact⟨(fun h=>by cases h),(fun _ h=>by omega)⟩
   | succ r=>exact⟨fun h=>⟨by omega,h⟩,fun h _=>h⟩
  have ax:=hid bc;have cb:=hid be;have a4:=hid ba;have cc:=hid (show ∀q,q=r+1→t.dataR o z1 z2 zs q=t.upZ q (t.lvlZ o z1 z2 (t.leafZ o z1 z2 zs) r)∧t.rtR o z1 z2 zs q=t.rootZ q (t.lvlZ o z1 z2 (t.leafZ o z1 z2 zs) r).length from fun q hq=>by subst hq;exact⟨rfl,rfl⟩);have bC:=hid (bM.out r);have ci:=hid (show ∀l∈t.allC o z1 z2 zs r,l.length≤8388608 from fun l hl=>by
   obtain⟨q, -,rfl⟩:=List.mem_map.1 hl;have:=(a6.out q).2.1
   show(t.rowC _ _ _ _ _ _ _).length≤_
   rw[qQ];omega)
  have bX:=hid (t.allC_length o z1 z2 zs r);have bJ:=hid (t.allC_succ o z1 z2 zs r);generalize t.dataR o z1 z2 zs r=D at*;generalize t.rtR o z1 z2 zs r=rt at*;generalize aB:t.callsR o z1 z2 zs r=CR at*;generalize aK:t.allC o z1 z2 zs r=AC at*;have bw:=hid aB;have bu:=hid aK;clear aB aK;obtain⟨dg,dc,dx,rfl,cz, -, -⟩:=hd.get (i:=0) (by omega);have bp: ¬F dg:=bm dg rfl;have bz: ¬F Y:=fun h=>by
   rcases aA Y h with V|V
   ·have:=(a9.out Y V).2;omega
   ·omega
  obtain⟨bN,bF⟩:=Ex wq.heap.size;have cC:Y<bN:=by rw[←bF];exact(Ai ab).1
  have HD:=hid hd;have cj:=hid aO;have aY:=hid aA;have bk:=hid aW;have HB:=hid hb;have ce:=hid ht;have bO:=hid ab;have cE:=hid aT;have cf:=hid d3;have ct:D.length≤4194305:=by omega
  have cq:(D.length:Int)≤9223372036854775807:=by omega
  clear hd bm aO aA aW hb ht ab aT be ba bc d3 d2;go_wp2_with fail
  go_loopw [8,15] (fun s i wr=> ∃(j:Nat) (F':Nat→Prop),i= .int .i64 (j:Nat)∧j≤D.length∧ListO bN wr s (t.rowZ o z1 z2 r rt D j)∧(∀g,s.ownBlock=some g→ ¬F' g)∧I AC (t.rowC o z1 z2 r rt D j) F' wr∧(∀k,F' k→F k∨bN≤k)∧ListO w0.heap.size wr (.slice (some ⟨dg,0,none⟩) D.length dc) D∧Below w0.heap.size w wr∧Tend F0 w wr∧wr.heap[Y]? =some (.cells #[.int .i64 t.k,.int .i64 t.d,.int .i64 t.f,.int .i64 t.p,.int .u32 t.l,.int .i64 t.i,.slice t.ka t.kl t.kc,.slice t.sa t.sl t.sc,.slice t.pa t.pl t.pc] 26 (0,0))∧bN≤wr.heap.size) (fun _ i _=>D.length - (intOf i).toNat)
  case atStart=>exact⟨0,F,rfl,Nat.zero_le _,ListO.nil _ _,(fun g h=>by cases h),cj.out,fun k h=> .inl h,HD.out,HB.out,ce.out,bO.out,by omega⟩
  case round=>
   obtain⟨j,F',rfl,hj,ho,ay,hI,ae,hd,hb,ht,ab,cl⟩:=hrel;by_cases bP:j<D.length
   case pos=>
    have cm:(j:Int)<D.length:=by omega
    obtain⟨g1,c1,x,e,cI,hx,aH⟩:=hd.get bP;simp only[Value.slice.injEq,Option.some.injEq,Addr.mk.injEq,and_true,true_and]at e;obtain⟨rfl,rfl⟩:=e;obtain⟨xb,xd,rfl, -, -⟩:=aH.hold.slice;have bI:=hid aH;have b8:=hid (cf.out j);obtain⟨ql,aJ⟩: ∃q:Bool,decide (j+1=D.length)=q:=⟨_,rfl⟩;have cG:((j:Int)==(D.length:Int) - 1)=ql:=by
     rw[←aJ,Bool.eq_iff_iff,beq_iff_eq,decide_eq_true_eq];omega
    have bg:=hid aJ;have cy:IntKind.u64.wrap (j:Int)=(j:Int):=u64_wrap_id _ (by omega) (by omega);have HO:=hid ho;have au:=hid ay;have am:=hid hI;have aa:=hid ae;have bU:=hid hd;have ai:=hid hb;have ac:=hid ht;have bi:=hid ab;have av:=hid (HW.out.trans hb);have X:w0.heap.size≤wr.heap.size:=av.out.size;have bn:=HT.out.below av.out;have af:=hid bn;obtain⟨a8,c8,rfl, -, -, -⟩:=ho.hold;have bW:=hid (HS.out.lt hI);clear aH aJ ho ay hI ae hd hb ht ab bn;go_wp2_with ((with_reducible show wpList _ _ _ (Oper.mk _ (Op.load 26 _) _ _ _ _::_) _ _);refine wpList_load_row rfl 26 _ rfl Y rfl _ _ _ _ bi.out Tryz.underlying26 rfl (by kernel_rfl) ?_)
    refine(qdy t af.out.v af.out.l z1 z2 o r j (by omega) (by omega) ql rt xb (qK D j).length xd wr af.out.s af.out.p af.out.k).mono ?_;rintro e w4 ⟨bv,kv,rfl,aR,aN,Z⟩;have cv:=Z.size;have al:=KB.of_below Z cl;have aI:=hid (HS.out.keep am.out (Z.mono X) (fun k J=>Z.block k (bW.out k J).2) al.bytes);have bR:=hid (bI.out.kb al);have aM:=hid (HO.out.below Z);have aU:=hid (bU.out.below Z);have bS:=hid (qg bi.out Z);have bY:=hid (av.out.trans (Z.mono X));have ck:=hid (ai.out.trans (Z.mono X));have aS:=hid (show Tend F0 w w4 from⟨ac.out.sp.trans (Spare.of_below (fun k=> ¬F0 k) Z) (fun _ _ h=>h),fun k c h=>al.bytes k c (ac.out.bytes k c h)⟩);have aQ:=hid (HS.out.see (la:=ql) (rt:=rt) aI.out bX.out (by omega) (show j≤8388608 by omega) ci.out (by rw[qQ];omega) bY.out (ownsRow_le aR X) (ownsRow_le aN X) bR.out (by have:=b8.out;omega));have bA:=hid (HS.out.lt aI.out);clear aR aN al Z;go_wp2_with fail
    refine aQ.out.mono ?_;rintro e w5 ⟨u,F5,rfl,hu,aF,ar,O⟩;obtain⟨u1,u3,rfl, -, -⟩:=hu.hold.slice;have cu:=O.sp.size;have aw: ∀g,(Value.slice a8 (t.rowZ o z1 z2 r rt D j).length c8).ownBlock=some g→g<wr.heap.size:=HO.out.block_lt;have bd:KB w0.heap.size w4 w5:=⟨O.sp.os,O.sp.tape,O.sp.output,O.sp.size,fun k J=>O.sp.block k (by omega) (fun h=>by have:=(bA.out k h).1;omega),O.bytes⟩;have aV:=hid (aM.out.tend O.bytes (fun g U=>O.sp.block g (by have:=aw g U;omega) (au.out g U)));have aE: ¬F' dg:=fun h=>by
     rcases aa.out dg h with V|V
     ·exact bp V
     ·omega
    have aG: ¬F' Y:=fun h=>by
     rcases aa.out Y h with V|V
     ·exact bz V
     ·omega
    have bK:=hid (aU.out.tend O.bytes (fun g U=>by
     simp only[Value.ownBlock,Option.some.injEq]at U;subst U;exact O.sp.block dg (by omega) aE))
    have bZ:=hid ((O.sp.block Y (by omega) aG).trans bS.out);have bQ:=hid (hu.le (show bN≤w4.heap.size by omega));have b7:=hid (show ∀k,F5 k→F k∨bN≤k from fun k J=>by
     rcases aF k J with h|h
     ·exact aa.out k h
     ·exact .inr (by omega))
    have aj:=hid (show ∀g,(Value.slice a8 (t.rowZ o z1 z2 r rt D j).length c8).ownBlock=some g→ ¬F5 g from fun g U h=>by
     rcases aF g h with V|V
     ·exact au.out g U V
     ·have:=aw g U;omega)
    have bL:=hid ar;have b6:=hid (ck.out.trans bd.below);have bh:=hid (show Tend F0 w w5 from⟨aS.out.sp.trans O.sp (fun k J h V=>by
     rcases aa.out k V with h3|h3
     ·rcases aY.out k h3 with h4|h4
      ·exact h h4
      ·omega
     ·omega),fun k c h=>O.bytes k c (aS.out.bytes k c h)⟩)
    have aC:=hid (HS.out.lt ar);have a5:t.node o z1 z2 r j ql rt (qK D j)=t.node o z1 z2 r j (decide (j+1=D.length)) rt (qK D j):=by rw[bg.out]
    have aL:t.callS o z1 z2 r j ql rt (qK D j)=t.callS o z1 z2 r j (decide (j+1=D.length)) rt (qK D j):=by rw[bg.out]
    have b4:=hid a5;have bG:=hid aL;have aD:=t.rowZ_length o z1 z2 r rt D j;have ch:=hid aD;generalize t.node o z1 z2 r j ql rt (qK D j)=ND at*;generalize t.callS o z1 z2 r j ql rt (qK D j)=CD at*;rw[aD]at aV aj⊢;clear hu aF ar O bd a5 aL aD aQ HO au aM aU aI aw aE aG;go_wp2_with (first|((with_reducible show wpList _ _ _ (Oper.mk _ (Op.buildSlice _ _ _) _ _ _ _::_) _ _);refine QG rfl _ rfl _ _ _ rfl ?_)|(at_builtin;refine Jv rfl _ _ rfl bN (.slice a8 j c8) (t.rowZ o z1 z2 r rt D j) ND (.slice u1 ND.length u3) rfl aV.out bQ.out rfl (by rw[ch.out];omega) (by omega) ?_;intro v' w' bs G br bx))
    have cF:=G.size;have aP:Below w0.heap.size w5 w':=G.below.mono (by omega);have ca: ∀k,F5 k→w'.heap[k]? =w5.heap[k]? :=fun k J=>br.block k (aC.out k J).2 (fun e=>aj.out k e J)
    refine⟨⟨j+1,F5,rfl,by omega,?_,?_,?_,b7.out,?_,b6.out.trans aP,⟨bh.out.sp.trans (T:=fun k=>k<bN) ⟨G.os,G.tape,G.output,G.size,fun k _ J=>G.block k J⟩ (fun k J _=>by omega),fun k c h=>G.bytes k c (bh.out.bytes k c h)⟩,?_,by omega⟩,by simp[intOf];omega⟩
    ·rw[zf,←b4.out];exact bs
    ·intro g U h;rcases bx with V|V
     ·rw[V]at U;exact aj.out g U h
     ·have:=V g U;have:=(aC.out g h).2;omega
    ·rw[zg,←bG.out];exact HS.out.keep bL.out aP ca G.bytes
    ·exact bK.out.tend G.bytes (fun g U=>by
      simp only[Value.ownBlock,Option.some.injEq]at U;subst U;exact G.block dg (by omega))
    ·exact(G.block Y (by omega)).trans bZ.out
   obtain rfl:j=D.length:=by omega
   rw[←a4.out]at hI;rw[←cb.out]at ho;obtain⟨a8,c8,rfl,bT,bV, -⟩:=id ho.hold;have HO:=hid ho;have am:=hid hI;have aa:=hid (show ∀k,F' k→F0 k∨Y<k from fun k J=>by
    rcases ae k J with h|h
    ·exact aY.out k h
    ·exact .inr (by omega))
   have ai:=hid hb;have ac:=hid ht;have a3:=hid (HS.out.lt hI);clear ho ay hI ae hd hb ht
   cases rt
   case true=>
    go_wp2_with fail
    exact Bp (results_none rfl _ _ _) rfl ⟨rfl,⟨r,F',⟨((ax.out true rfl).1 rfl).1,((ax.out true rfl).1 rfl).2,bk.out⟩,by rw[bu.out,bw.out];exact am.out,fun k J=>by
     rcases aa.out k J with h|h
     ·exact .inl h
     ·exact .inr (by omega)⟩,ai.out,ac.out⟩
   case false=>
    obtain⟨l1,l2,l3⟩:=bC.out;have bH:=YX l3;have b9:=bq.out;have a7:=hid ((ax.out false rfl).2 rfl);have bj:=hid (qh1 t HT.out.v (r+1) (by omega) _ _ wr HO.out.hold (by omega) (by omega) l1);have cA:IntKind.i64.wrap ((r:Int)+1)=((r+1:Nat):Int):=by rw[IntKind.wrap_i64]<;>omega
    have cD:((r:Int)+1)≤t.p - 1:=by
     by_cases h0:r=0
     ·omega
     ·by_cases h1:(r:Int)=t.p - 1
      ·have V:=a7.out (by omega);rw[qao h1]at V
       cases V
      ·omega
    have az:CR≠[]:=by
     rw[a4.out];exact List.length_pos_iff.1 (by rw[qQ];omega)
    have bt:=hid az;obtain⟨aq,ap⟩:=cc.out (r+1) rfl;have aq:=hid aq;have ap:=hid ap;generalize t.lvlZ o z1 z2 (t.leafZ o z1 z2 zs) r=LZ at*;obtain⟨M,hM⟩:=Ex LZ.length;rw[hM]at bj ap⊢;clear l1 l2 l3 bH b9 az bT bV hM;go_wp2_with ((with_reducible show wpList _ _ _ (Oper.mk _ (Op.load 26 _) _ _ _ _::_) _ _);refine wpList_load_row rfl 26 _ rfl Y rfl _ _ _ _ ab Tryz.underlying26 rfl (by kernel_rfl) ?_)
    refine bj.out.mono ?_;rintro e w9 ⟨u,rfl,hu,ah⟩;have cp:=ah.size;have aZ:=KB.of_below ah (Nat.zero_le _);have X:w0.heap.size≤wr.heap.size:=by have:=(HW.out.trans ai.out).size;omega
    have ak:=hid ah;have b3:=hid (qg ab ah);have cg:=hid hu;obtain⟨ua,uc,rfl, -, -, -⟩:=id hu.hold;have b5:=hid (show ∀g,(Value.slice ua (t.upZ (r+1) LZ).length uc).ownBlock=some g→wr.heap.size≤g from fun g U=>by
     obtain⟨vs,bE, -⟩:=hu;rcases bE.2 with⟨e, -⟩|⟨g',cr,cx,e,h1, -⟩
     ·simp only[Value.slice.injEq]at e;rw[e.1]at U;cases U
     ·simp only[Value.slice.injEq]at e;rw[e.1]at U;simp only[Value.ownBlock,Option.some.injEq]at U;omega)
    clear hu ah;go_wp2_with fail
    refine⟨⟨r+1,F',rfl,by omega,by rw[ap.out],by rw[aq.out];exact cg.out.le X,fun g U h=>by have:=b5.out g U;have:=(a3.out g h).2;omega,?_,aa.out,fun q' h1 V=>?_,ai.out.trans (ak.out.mono X),⟨ac.out.sp.trans (Spare.of_below (fun k=> ¬F0 k) ak.out) (fun _ _ h=>h),fun k c h=>aZ.bytes k c (ac.out.bytes k c h)⟩,b3.out⟩,by simp[intOf];omega⟩
    ·rw[bJ.out];exact HS.out.keep (HS.out.next bt.out am.out) (ak.out.mono X) (fun k J=>ak.out.block k (a3.out k J).2) aZ.bytes
    ·by_cases hq:q'=r
     ·subst hq;exact a7.out h1
     ·exact bk.out q' h1 (by omega)
end Go.Proofs.YthjoojnlnlmljaaGreat
