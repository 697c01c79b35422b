/- A block's numbers lie in it: laid anew they give the block. Plain. No condition. -/
import Derived.Test.YthjoojnlnlmljaaGreatF22
set_option linter.all false
set_option maxRecDepth 100000
set_option maxHeartbeats 8000000
namespace Go.Proofs.YthjoojnlnlmljaaGreat
open Go.ChangeShapes Go.WideShapes Go.ChangeAt Go.RowKit Go.Joins Go.Shelf Go.Maps
theorem qfw {zs:List Int}(I: ∀z∈zs,0≤z∧z≤255)(p:Nat): ∀n,p+n≤zs.length→ ∀j,byt (Qa zs p n).toNat j=if j<n then qn zs (p+j) else 0
  | 0,_,j=>by simp[Qa,byt,jm]
  | n+1,h,j=>by
    have o:=qfw I p n (by omega) j;have S:=QB (zs:=zs) I (at_:=p) n (by omega);obtain⟨-,z1,z2⟩:=qQ I (show p+n<zs.length by omega);obtain⟨z,q⟩: ∃z:Nat,qn zs (p+n)=z:=⟨(qn zs (p+n)).toNat,by omega⟩;obtain⟨a,G⟩: ∃a:Nat,Qa zs p n=a:=⟨(Qa zs p n).toNat,by omega⟩;have D:(2:Int)^(8*n)=((256^n:Nat):Int):=by
      rw[Int.pow_mul];norm_cast
    have J:a<256^n:=by
      have:=S.2;rw[G,D]at this;exact_mod_cast this
    have e:(Qa zs p (n+1)).toNat=a+z*256^n:=by
      rw[Qa,G,q,D,←Int.natCast_mul,←Int.natCast_add,Int.toNat_natCast]
    rw[G,Int.toNat_natCast]at o;rw[e];unfold byt jm at o⊢;by_cases U:j<n
    · rw[if_pos U]at o
      rw[if_pos (by omega),←o];have V:256^n=256^j*(256*256^(n - j - 1)):=by
        rw[←Nat.pow_succ',←Nat.pow_add];congr 1;omega
      rw[V,show z*(256^j*(256*256^(n - j - 1)))=256^j*(256*(z*256^(n - j - 1))) by
        rw[Nat.mul_left_comm z,Nat.mul_left_comm z],Nat.add_mul_div_left _ _ (Nat.pow_pos (by omega)),Nat.add_mul_mod_self_left]
    · by_cases O:j=n
      · subst O
        rw[if_pos (by omega),Nat.add_mul_div_right _ _ (Nat.pow_pos (by omega)),Nat.div_eq_of_lt J,Nat.zero_add,q];have:z%256=z:=Nat.mod_eq_of_lt (by omega)
        rw[this]
      · rw[if_neg (by omega)]
        have:a+z*256^n<256^j:=by
          have X:256^(n+1)≤256^j:=Nat.pow_le_pow_right (by omega) (by omega);have Z:z*256^n≤255*256^n:=Nat.mul_le_mul_right _ (by omega);have Y:256^(n+1)=256*256^n:=Nat.pow_succ';omega
        rw[Nat.div_eq_of_lt this];rfl
theorem qbS {x:List Int}{j:Nat}(q:j<x.length):qn x j=if j<(yI x).length then qn (yI x) j else 0:=by
  have o:(yI x).length=Qc x x.length:=by unfold yI;have:=Zo x x.length;simp;omega
  rw[o];by_cases h:j<Qc x x.length
  · rw[if_pos h];unfold yI qn;simp[Lg,List.getElem?_take,h]
  · rw[if_neg h];exact qaz x _ _ (by omega) q
theorem Qq (big q:Bool)(v:Nat→Nat){k:Nat}(I:k+1≤9)(i:Nat):
    qn (Qt big q v (k+1)) i=if ¬(k+1=7∧q=true)∧atB big (k+1)≤i∧i<atB big (k+1)+szB big (k+1) then byt (v (k+1)) (i - atB big (k+1)) else qn (Qt big q v k) i:=by
  have G:=QQ big false (k+1) (by omega) (by omega);have e:szE big false (k+1)=szB big (k+1):=by simp[szE]
  rw[e]at G;have J:32≤mB big:=by cases big<;>decide
  rw[Qt];by_cases h:k+1=7∧q=true
  · rw[if_pos h,if_neg (fun o=>o.1 h)]
  · rw[if_neg h,Yi (by rw[qS,QG big q v k (by omega)];omega),qS]
    by_cases o:atB big (k+1)≤i∧i<atB big (k+1)+szB big (k+1)
    · rw[if_pos o,if_pos ⟨h,o⟩]
      simp[qn,qZ,Lg,show i - atB big (k+1)<szB big (k+1) by omega]
    · rw[if_neg o,if_neg (fun D=>o D.2)]
theorem ji (big o:Bool)(v:Nat→Nat)(i:Nat):qn (Qt big o v 0) i=0:=by
  unfold Qt qn;simp only[Lg,List.getElem?_replicate];split<;>rfl
theorem qhd {big ext:Bool}{zs:List Int}(U: ∀z∈zs,0≤z∧z≤255)(O:zs.length=mB big)(Z:big=true→ ∀i,18≤i→i<32→qn zs i=0)(hx:ext=true→xoZ big ext zs≠0){i:Nat}(I:i<2*sB big):
    qn (Qt big (Ye big ext zs 7==0) (Ye big ext zs) 9) i=qn zs i:=by
  have Y: ∀f,1≤f→f≤9→ ¬(f=7∧ext=false)→Ye big ext zs f=(Qa zs (atB big f) (szE big ext f)).toNat:=fun f G D J=>by
    have:=Jk (big:=big) (ext:=ext) U O G D J;omega
  have o: ∀f j,1≤f→f≤9→ ¬(f=7∧ext=false)→byt (Ye big ext zs f) j=if j<szE big ext f then qn zs (atB big f+j) else 0:=fun f j G D J=>by
    rw[Y f G D J];have S:=QQ big ext f G D;exact qfw U _ _ (by rw[O];cases big;(have:=S.2.2.2 rfl;show _≤32;omega);(show _≤64;omega)) j
  have X:(Ye big ext zs 7==0)= !ext:=by
    cases ext
    · rfl
    · have h7:((Ye big true zs 7:Nat):Int)=xoZ big true zs:=by
        rw[Jk U O (by omega) (by omega) (by simp)];cases big<;>rfl
      have:=hx rfl
      rw[Bool.not_true,beq_eq_false_iff_ne];omega
  rw[X];rw[Qq _ _ _ (k:=8) (by omega),Qq _ _ _ (k:=7) (by omega),Qq _ _ _ (k:=6) (by omega),Qq _ _ _ (k:=5) (by omega),Qq _ _ _ (k:=4) (by omega),Qq _ _ _ (k:=3) (by omega),Qq _ _ _ (k:=2) (by omega),Qq _ _ _ (k:=1) (by omega),Qq _ _ _ (k:=0) (by omega),ji];rw[o 9 _ (by omega) (by omega) (by omega),o 8 _ (by omega) (by omega) (by omega),o 6 _ (by omega) (by omega) (by omega),o 5 _ (by omega) (by omega) (by omega),o 4 _ (by omega) (by omega) (by omega),o 3 _ (by omega) (by omega) (by omega),o 2 _ (by omega) (by omega) (by omega),o 1 _ (by omega) (by omega) (by omega)]
  cases big
  · have I:i<16:=I
    rcases(show i=0∨i=1∨i=2∨i=3∨i=4∨i=5∨i=6∨i=7∨i=8∨i=9∨i=10∨i=11∨i=12∨i=13∨i=14∨i=15 by omega)with rfl|rfl|rfl|rfl|rfl|rfl|rfl|rfl|rfl|rfl|rfl|rfl|rfl|rfl|rfl|rfl<;>cases ext<;>simp[atB,szB,szE]<;>(rw[o 7 _ (by omega) (by omega) (by simp)];simp[atB,szB,szE])
  · have I:i<32:=I
    by_cases V:18≤i
    · rw[Z rfl i V I]
      have q: ∀f,1≤f→f≤9→ ¬(atB true f≤i∧i<atB true f+szB true f):=fun f G D J=>by
        have S:=QQ true false f G D;rw[show szE true false f=szB true f by simp[szE]]at S;omega
      rw[if_neg (fun h=>q 9 (by omega) (by omega) h.2),if_neg (fun h=>q 8 (by omega) (by omega) h.2),if_neg (fun h=>q 7 (by omega) (by omega) h.2),if_neg (fun h=>q 6 (by omega) (by omega) h.2),if_neg (fun h=>q 5 (by omega) (by omega) h.2),if_neg (fun h=>q 4 (by omega) (by omega) h.2),if_neg (fun h=>q 3 (by omega) (by omega) h.2),if_neg (fun h=>q 2 (by omega) (by omega) h.2),if_neg (fun h=>q 1 (by omega) (by omega) h.2)]
    · rcases(show i=0∨i=1∨i=2∨i=3∨i=4∨i=5∨i=6∨i=7∨i=8∨i=9∨i=10∨i=11∨i=12∨i=13∨i=14∨i=15∨i=16∨i=17 by omega)with rfl|rfl|rfl|rfl|rfl|rfl|rfl|rfl|rfl|rfl|rfl|rfl|rfl|rfl|rfl|rfl|rfl|rfl<;>cases ext<;>simp[atB,szB,szE]<;>(rw[o 7 _ (by omega) (by omega) (by simp)];simp[atB,szB,szE])
theorem qhn {big ext:Bool}{zs:List Int}(hz: ∀z∈zs,0≤z∧z≤255)(h:okD big ext zs):QI big (Ye big ext zs) (Yv big zs) (YH big zs)=zs:=by
  obtain⟨Y,hm,hx, -⟩:=h;have hM:mB big=4*sB big:=by cases big<;>rfl
  have G: ∀x:List Int,(yI x).length≤x.length:=fun x=>by unfold yI;rw[List.length_take];omega
  have e1:((zs.drop (2*sB big)).take (sB big)).length=sB big:=by simp;omega
  have e2:((zs.drop (3*sB big)).take (sB big)).length=sB big:=by simp;omega
  have l1:(Yv big zs).length≤sB big:=Nat.le_trans (G _) (by omega);have l2:(YH big zs).length≤sB big:=Nat.le_trans (G _) (by omega);have hF:=QG big (Ye big ext zs 7==0) (Ye big ext zs) 9 (by omega);have U:=yc (big:=big) (v:=Ye big ext zs) l1 l2;have I: ∀i,2*sB big≤i→qn (Qt big (Ye big ext zs 7==0) (Ye big ext zs) 9) i=0:=fun i hi=>by
    have S:16≤2*sB big∧(big=true→18≤2*sB big):=by cases big<;>decide
    have q: ∀f,1≤f→f≤9→ ¬(atB big f≤i∧i<atB big f+szB big f):=fun f J D X=>by
      have Z:=QQ big false f J D;rw[show szE big false f=szB big f by simp[szE]]at Z
      cases big
      · have:=Z.2.2.2 rfl;omega
      · have:=S.2 rfl;omega
    rw[Qq _ _ _ (k:=8) (by omega),Qq _ _ _ (k:=7) (by omega),Qq _ _ _ (k:=6) (by omega),Qq _ _ _ (k:=5) (by omega),Qq _ _ _ (k:=4) (by omega),Qq _ _ _ (k:=3) (by omega),Qq _ _ _ (k:=2) (by omega),Qq _ _ _ (k:=1) (by omega),Qq _ _ _ (k:=0) (by omega),ji];rw[if_neg (fun h=>q 9 (by omega) (by omega) h.2),if_neg (fun h=>q 8 (by omega) (by omega) h.2),if_neg (fun h=>q 7 (by omega) (by omega) h.2),if_neg (fun h=>q 6 (by omega) (by omega) h.2),if_neg (fun h=>q 5 (by omega) (by omega) h.2),if_neg (fun h=>q 4 (by omega) (by omega) h.2),if_neg (fun h=>q 3 (by omega) (by omega) h.2),if_neg (fun h=>q 2 (by omega) (by omega) h.2),if_neg (fun h=>q 1 (by omega) (by omega) h.2)]
  have key: ∀i,i<mB big→qn (QI big (Ye big ext zs) (Yv big zs) (YH big zs)) i=qn zs i:=fun i hi=>by
    have aa:(Qb (Qt big (Ye big ext zs 7==0) (Ye big ext zs) 9) (2*sB big) (Yv big zs)).length=mB big:=by rw[Qd (by omega),hF]
    unfold QI;rw[Yi (by omega),Yi (by omega)];by_cases X:3*sB big≤i
    · have V:i - 3*sB big<((zs.drop (3*sB big)).take (sB big)).length:=by omega
      have o:=qbS V;rw[qaV (by omega),show 3*sB big+(i - 3*sB big)=i by omega]at o;by_cases O:i<3*sB big+(YH big zs).length
      · rw[if_pos ⟨X,O⟩];rw[if_pos (by show _<(YH big zs).length;omega)]at o;exact o.symm
      · rw[if_neg (by omega),if_neg (by omega),I i (by omega)];rw[if_neg (by show ¬_<(YH big zs).length;omega)]at o;exact o.symm
    · rw[if_neg (by omega)]
      by_cases D:2*sB big≤i
      · have V:i - 2*sB big<((zs.drop (2*sB big)).take (sB big)).length:=by omega
        have o:=qbS V;rw[qaV (by omega),show 2*sB big+(i - 2*sB big)=i by omega]at o;by_cases O:i<2*sB big+(Yv big zs).length
        · rw[if_pos ⟨D,O⟩];rw[if_pos (by show _<(Yv big zs).length;omega)]at o;exact o.symm
        · rw[if_neg (by omega),I i (by omega)];rw[if_neg (by show ¬_<(Yv big zs).length;omega)]at o;exact o.symm
      · rw[if_neg (by omega)];exact qhd hz Y hm hx (by omega)
  apply List.ext_getElem (by rw[U,Y])
  intro i J D;have:=key i (by omega)
  simpa [qn,Lg,J,D] using this
end Go.Proofs.YthjoojnlnlmljaaGreat
