/- A block's numbers lie in it: laid anew they give the block. Plain. No condition. -/
import Derived.Test.YthjoojnlnlmljaaGreatG22
set_option linter.all false
set_option maxRecDepth 100000
set_option maxHeartbeats 8000000
namespace Go.Proofs.YthjoojnlnlmljaaGreat
open Go.ChangeShapes Go.WideShapes Go.ChangeAt Go.RowKit Go.Joins Go.Shelf Go.Maps
theorem qf5 {zs:List Int}(I: ∀z∈zs,0≤z∧z≤255)(p:Nat): ∀n,p+n≤zs.length→ ∀j,byt (Qh zs p n).toNat j=if j<n then qr zs (p+j) else 0
  | 0,_,j=>by simp[Qh,byt,jD]
  | n+1,h,j=>by
    have o:=qf5 I p n (by omega) j;have V:=QH (zs:=zs) I (at_:=p) n (by omega);obtain⟨-,z1,z2⟩:=qU I (show p+n<zs.length by omega);obtain⟨z,q⟩: ∃z:Nat,qr zs (p+n)=z:=⟨(qr zs (p+n)).toNat,by omega⟩;obtain⟨a,G⟩: ∃a:Nat,Qh zs p n=a:=⟨(Qh zs p n).toNat,by omega⟩;have D:(2:Int)^(8*n)=((256^n:Nat):Int):=by
      rw[Int.pow_mul];norm_cast
    have J:a<256^n:=by
      have:=V.2;rw[G,D]at this;exact_mod_cast this
    have e:(Qh zs p (n+1)).toNat=a+z*256^n:=by
      rw[Qh,G,q,D,←Int.natCast_mul,←Int.natCast_add,Int.toNat_natCast]
    rw[G,Int.toNat_natCast]at o;rw[e];unfold byt jD at o⊢;by_cases X:j<n
    · rw[if_pos X]at o
      rw[if_pos (by omega),←o];have U:256^n=256^j*(256*256^(n - j - 1)):=by
        rw[←Nat.pow_succ',←Nat.pow_add];congr 1;omega
      rw[U,show z*(256^j*(256*256^(n - j - 1)))=256^j*(256*(z*256^(n - j - 1))) by
        rw[Nat.mul_left_comm z,Nat.mul_left_comm z],Nat.add_mul_div_left _ _ (Nat.pow_pos (by omega)),Nat.add_mul_mod_self_left]
    · by_cases O:j=n
      · subst O
        rw[if_pos (by omega),Nat.add_mul_div_right _ _ (Nat.pow_pos (by omega)),Nat.div_eq_of_lt J,Nat.zero_add,q];have:z%256=z:=Nat.mod_eq_of_lt (by omega)
        rw[this]
      · rw[if_neg (by omega)]
        have:a+z*256^n<256^j:=by
          have Y:256^(n+1)≤256^j:=Nat.pow_le_pow_right (by omega) (by omega);have h4:z*256^n≤255*256^n:=Nat.mul_le_mul_right _ (by omega);have Z:256^(n+1)=256*256^n:=Nat.pow_succ';omega
        rw[Nat.div_eq_of_lt this];rfl
theorem qco {x:List Int}{j:Nat}(q:j<x.length):qr x j=if j<(yR x).length then qr (yR x) j else 0:=by
  have o:(yR x).length=Qj x x.length:=by unfold yR;have:=ZC x x.length;simp;omega
  rw[o];by_cases h:j<Qj x x.length
  · rw[if_pos h];unfold yR qr;simp[Lg,List.getElem?_take,h]
  · rw[if_neg h];exact qa4 x _ _ (by omega) q
theorem Qx (big q:Bool)(v:Nat→Nat){k:Nat}(I:k+1≤9)(i:Nat):
    qr (Qz big q v (k+1)) i=if ¬(k+1=7∧q=true)∧atB big (k+1)≤i∧i<atB big (k+1)+szB big (k+1) then byt (v (k+1)) (i - atB big (k+1)) else qr (Qz big q v k) i:=by
  have D:=QY big false (k+1) (by omega) (by omega);have e:szE big false (k+1)=szB big (k+1):=by simp[szE]
  rw[e]at D;have J:32≤mB big:=by cases big<;>decide
  rw[Qz];by_cases h:k+1=7∧q=true
  · rw[if_pos h,if_neg (fun o=>o.1 h)]
  · rw[if_neg h,Yr (by rw[Qa,QP big q v k (by omega)];omega),Qa]
    by_cases o:atB big (k+1)≤i∧i<atB big (k+1)+szB big (k+1)
    · rw[if_pos o,if_pos ⟨h,o⟩]
      simp[qr,Qg,Lg,show i - atB big (k+1)<szB big (k+1) by omega]
    · rw[if_neg o,if_neg (fun G=>o G.2)]
theorem jy (big o:Bool)(v:Nat→Nat)(i:Nat):qr (Qz big o v 0) i=0:=by
  unfold Qz qr;simp only[Lg,List.getElem?_replicate];split<;>rfl
theorem qhO {big ext:Bool}{zs:List Int}(V: ∀z∈zs,0≤z∧z≤255)(O:zs.length=mB big)(hm:big=true→ ∀i,18≤i→i<32→qr zs i=0)(Z:ext=true→xoZ big ext zs≠0){i:Nat}(I:i<2*sB big):
    qr (Qz big (Yn big ext zs 7==0) (Yn big ext zs) 9) i=qr zs i:=by
  have hv: ∀f,1≤f→f≤9→ ¬(f=7∧ext=false)→Yn big ext zs f=(Qh zs (atB big f) (szE big ext f)).toNat:=fun f G D J=>by
    have:=JK (big:=big) (ext:=ext) V O G D J;omega
  have o: ∀f j,1≤f→f≤9→ ¬(f=7∧ext=false)→byt (Yn big ext zs f) j=if j<szE big ext f then qr zs (atB big f+j) else 0:=fun f j G D J=>by
    rw[hv f G D J];have U:=QY big ext f G D;exact qf5 V _ _ (by rw[O];cases big;(have:=U.2.2.2 rfl;show _≤32;omega);(show _≤64;omega)) j
  have X:(Yn big ext zs 7==0)= !ext:=by
    cases ext
    · rfl
    · have h7:((Yn big true zs 7:Nat):Int)=xoZ big true zs:=by
        rw[JK V O (by omega) (by omega) (by simp)];cases big<;>rfl
      have:=Z rfl
      rw[Bool.not_true,beq_eq_false_iff_ne];omega
  rw[X];rw[Qx _ _ _ (k:=8) (by omega),Qx _ _ _ (k:=7) (by omega),Qx _ _ _ (k:=6) (by omega),Qx _ _ _ (k:=5) (by omega),Qx _ _ _ (k:=4) (by omega),Qx _ _ _ (k:=3) (by omega),Qx _ _ _ (k:=2) (by omega),Qx _ _ _ (k:=1) (by omega),Qx _ _ _ (k:=0) (by omega),jy];rw[o 9 _ (by omega) (by omega) (by omega),o 8 _ (by omega) (by omega) (by omega),o 6 _ (by omega) (by omega) (by omega),o 5 _ (by omega) (by omega) (by omega),o 4 _ (by omega) (by omega) (by omega),o 3 _ (by omega) (by omega) (by omega),o 2 _ (by omega) (by omega) (by omega),o 1 _ (by omega) (by omega) (by omega)]
  cases big
  · have I:i<16:=I
    rcases(show i=0∨i=1∨i=2∨i=3∨i=4∨i=5∨i=6∨i=7∨i=8∨i=9∨i=10∨i=11∨i=12∨i=13∨i=14∨i=15 by omega)with rfl|rfl|rfl|rfl|rfl|rfl|rfl|rfl|rfl|rfl|rfl|rfl|rfl|rfl|rfl|rfl<;>cases ext<;>simp[atB,szB,szE]<;>(rw[o 7 _ (by omega) (by omega) (by simp)];simp[atB,szB,szE])
  · have I:i<32:=I
    by_cases Y:18≤i
    · rw[hm rfl i Y I]
      have q: ∀f,1≤f→f≤9→ ¬(atB true f≤i∧i<atB true f+szB true f):=fun f G D J=>by
        have U:=QY true false f G D;rw[show szE true false f=szB true f by simp[szE]]at U;omega
      rw[if_neg (fun h=>q 9 (by omega) (by omega) h.2),if_neg (fun h=>q 8 (by omega) (by omega) h.2),if_neg (fun h=>q 7 (by omega) (by omega) h.2),if_neg (fun h=>q 6 (by omega) (by omega) h.2),if_neg (fun h=>q 5 (by omega) (by omega) h.2),if_neg (fun h=>q 4 (by omega) (by omega) h.2),if_neg (fun h=>q 3 (by omega) (by omega) h.2),if_neg (fun h=>q 2 (by omega) (by omega) h.2),if_neg (fun h=>q 1 (by omega) (by omega) h.2)]
    · rcases(show i=0∨i=1∨i=2∨i=3∨i=4∨i=5∨i=6∨i=7∨i=8∨i=9∨i=10∨i=11∨i=12∨i=13∨i=14∨i=15∨i=16∨i=17 by omega)with rfl|rfl|rfl|rfl|rfl|rfl|rfl|rfl|rfl|rfl|rfl|rfl|rfl|rfl|rfl|rfl|rfl|rfl<;>cases ext<;>simp[atB,szB,szE]<;>(rw[o 7 _ (by omega) (by omega) (by simp)];simp[atB,szB,szE])
theorem qhZ {big ext:Bool}{zs:List Int}(hz: ∀z∈zs,0≤z∧z≤255)(h:okD big ext zs):QR big (Yn big ext zs) (YD big zs) (YR big zs)=zs:=by
  obtain⟨Z,hm,hx, -⟩:=h;have hM:mB big=4*sB big:=by cases big<;>rfl
  have G: ∀x:List Int,(yR x).length≤x.length:=fun x=>by unfold yR;rw[List.length_take];omega
  have e1:((zs.drop (2*sB big)).take (sB big)).length=sB big:=by simp;omega
  have e2:((zs.drop (3*sB big)).take (sB big)).length=sB big:=by simp;omega
  have l1:(YD big zs).length≤sB big:=Nat.le_trans (G _) (by omega);have l2:(YR big zs).length≤sB big:=Nat.le_trans (G _) (by omega);have hF:=QP big (Yn big ext zs 7==0) (Yn big ext zs) 9 (by omega);have V:=yh (big:=big) (v:=Yn big ext zs) l1 l2;have I: ∀i,2*sB big≤i→qr (Qz big (Yn big ext zs 7==0) (Yn big ext zs) 9) i=0:=fun i hi=>by
    have J:16≤2*sB big∧(big=true→18≤2*sB big):=by cases big<;>decide
    have q: ∀f,1≤f→f≤9→ ¬(atB big f≤i∧i<atB big f+szB big f):=fun f U D Y=>by
      have hs:=QY big false f U D;rw[show szE big false f=szB big f by simp[szE]]at hs
      cases big
      · have:=hs.2.2.2 rfl;omega
      · have:=J.2 rfl;omega
    rw[Qx _ _ _ (k:=8) (by omega),Qx _ _ _ (k:=7) (by omega),Qx _ _ _ (k:=6) (by omega),Qx _ _ _ (k:=5) (by omega),Qx _ _ _ (k:=4) (by omega),Qx _ _ _ (k:=3) (by omega),Qx _ _ _ (k:=2) (by omega),Qx _ _ _ (k:=1) (by omega),Qx _ _ _ (k:=0) (by omega),jy];rw[if_neg (fun h=>q 9 (by omega) (by omega) h.2),if_neg (fun h=>q 8 (by omega) (by omega) h.2),if_neg (fun h=>q 7 (by omega) (by omega) h.2),if_neg (fun h=>q 6 (by omega) (by omega) h.2),if_neg (fun h=>q 5 (by omega) (by omega) h.2),if_neg (fun h=>q 4 (by omega) (by omega) h.2),if_neg (fun h=>q 3 (by omega) (by omega) h.2),if_neg (fun h=>q 2 (by omega) (by omega) h.2),if_neg (fun h=>q 1 (by omega) (by omega) h.2)]
  have key: ∀i,i<mB big→qr (QR big (Yn big ext zs) (YD big zs) (YR big zs)) i=qr zs i:=fun i hi=>by
    have aa:(Qi (Qz big (Yn big ext zs 7==0) (Yn big ext zs) 9) (2*sB big) (YD big zs)).length=mB big:=by rw[Qk (by omega),hF]
    unfold QR;rw[Yr (by omega),Yr (by omega)];by_cases Y:3*sB big≤i
    · have X:i - 3*sB big<((zs.drop (3*sB big)).take (sB big)).length:=by omega
      have o:=qco X;rw[qbq (by omega),show 3*sB big+(i - 3*sB big)=i by omega]at o;by_cases O:i<3*sB big+(YR big zs).length
      · rw[if_pos ⟨Y,O⟩];rw[if_pos (by show _<(YR big zs).length;omega)]at o;exact o.symm
      · rw[if_neg (by omega),if_neg (by omega),I i (by omega)];rw[if_neg (by show ¬_<(YR big zs).length;omega)]at o;exact o.symm
    · rw[if_neg (by omega)]
      by_cases D:2*sB big≤i
      · have X:i - 2*sB big<((zs.drop (2*sB big)).take (sB big)).length:=by omega
        have o:=qco X;rw[qbq (by omega),show 2*sB big+(i - 2*sB big)=i by omega]at o;by_cases O:i<2*sB big+(YD big zs).length
        · rw[if_pos ⟨D,O⟩];rw[if_pos (by show _<(YD big zs).length;omega)]at o;exact o.symm
        · rw[if_neg (by omega),I i (by omega)];rw[if_neg (by show ¬_<(YD big zs).length;omega)]at o;exact o.symm
      · rw[if_neg (by omega)];exact qhO hz Z hm hx (by omega)
  apply List.ext_getElem (by rw[V,Z])
  intro i U D;have:=key i (by omega)
  simpa [qr,Lg,U,D] using this
end Go.Proofs.YthjoojnlnlmljaaGreat
