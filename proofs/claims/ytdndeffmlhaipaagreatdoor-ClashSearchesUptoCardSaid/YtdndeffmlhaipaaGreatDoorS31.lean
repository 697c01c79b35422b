/- A block's numbers lie in it: laid anew they give the block. Plain. No condition. -/
import Derived.Test.YtdndeffmlhaipaaGreatDoorS28
import Derived.Test.YtdndeffmlhaipaaGreatDoorS30
import Derived.Test.YtdndeffmlhaipaaGreatDoorS04
import Derived.Test.YtdndeffmlhaipaaGreatDoorS14
import Derived.Test.YtdndeffmlhaipaaGreatDoorS23
import Derived.Test.YtdndeffmlhaipaaGreatDoorS18
import Derived.Maps.AppendAt
set_option linter.all false
set_option maxRecDepth 100000
set_option maxHeartbeats 8000000
namespace Go.Proofs.YtdndeffmlhaipaaGreatDoor
open Go.ChangeShapes Go.WideShapes Go.ChangeAt Go.RowKit Go.Joins Go.Shelf Go.Maps
open Go.Lib (hid)
theorem qdN {zs:List Int}(hz: ∀z∈zs,0≤z∧z≤255)(p:Nat): ∀n,p+n≤zs.length→ ∀j,byt (qT zs p n).toNat j=if j<n then qm zs (p+j) else 0
  | 0,_,j=>by simp[qT,byt,ZC]
  | n+1,h,j=>by
    have ih:=qdN hz p n (by omega) j;have hb:=Qu (zs:=zs) hz (at_:=p) n (by omega);obtain⟨-,z1,z2⟩:=qL hz (show p+n<zs.length by omega);obtain⟨z,hzz⟩: ∃z:Nat,qm zs (p+n)=z:=⟨(qm zs (p+n)).toNat,by omega⟩;obtain⟨a,ha⟩: ∃a:Nat,qT zs p n=a:=⟨(qT zs p n).toNat,by omega⟩;have hpw:(2:Int)^(8*n)=((256^n:Nat):Int):=by
      rw[Int.pow_mul];norm_cast
    have ha2:a<256^n:=by
      have:=hb.2;rw[ha,hpw]at this;exact_mod_cast this
    have e:(qT zs p (n+1)).toNat=a+z*256^n:=by
      rw[qT,ha,hzz,hpw,←Int.natCast_mul,←Int.natCast_add,Int.toNat_natCast]
    rw[ha,Int.toNat_natCast]at ih;rw[e];unfold byt ZC at ih⊢;by_cases h1:j<n
    · rw[if_pos h1]at ih
      rw[if_pos (by omega),←ih];have e2:256^n=256^j*(256*256^(n - j - 1)):=by
        rw[←Nat.pow_succ',←Nat.pow_add];congr 1;omega
      rw[e2,show z*(256^j*(256*256^(n - j - 1)))=256^j*(256*(z*256^(n - j - 1))) by
        rw[Nat.mul_left_comm z,Nat.mul_left_comm z],Nat.add_mul_div_left _ _ (Nat.pow_pos (by omega)),Nat.add_mul_mod_self_left]
    · by_cases h2:j=n
      · subst h2
        rw[if_pos (by omega),Nat.add_mul_div_right _ _ (Nat.pow_pos (by omega)),Nat.div_eq_of_lt ha2,Nat.zero_add,hzz];have:z%256=z:=Nat.mod_eq_of_lt (by omega)
        rw[this]
      · rw[if_neg (by omega)]
        have:a+z*256^n<256^j:=by
          have h3:256^(n+1)≤256^j:=Nat.pow_le_pow_right (by omega) (by omega);have h4:z*256^n≤255*256^n:=Nat.mul_le_mul_right _ (by omega);have h5:256^(n+1)=256*256^n:=Nat.pow_succ';omega
        rw[Nat.div_eq_of_lt this];rfl
theorem qaK {x:List Int}{j:Nat}(hj:j<x.length):qm x j=if j<(yp x).length then qm (yp x) j else 0:=by
  have hl:(yp x).length=qW x x.length:=by unfold yp;have:=zE x x.length;simp;omega
  rw[hl];by_cases h:j<qW x x.length
  · rw[if_pos h];unfold yp qm;simp[Lg,List.getElem?_take,h]
  · rw[if_neg h];exact Jy x _ _ (by omega) hj
theorem Ql (big x0:Bool)(v:Nat→Nat){k:Nat}(hk:k+1≤9)(i:Nat):
    qm (Qo big x0 v (k+1)) i=if ¬(k+1=7∧x0=true)∧atB big (k+1)≤i∧i<atB big (k+1)+szB big (k+1) then byt (v (k+1)) (i - atB big (k+1)) else qm (Qo big x0 v k) i:=by
  have hs:=QJ big false (k+1) (by omega) (by omega);have e:szE big false (k+1)=szB big (k+1):=by simp[szE]
  rw[e]at hs;have hm:32≤mB big:=by cases big<;>decide
  rw[Qo];by_cases h:k+1=7∧x0=true
  · rw[if_pos h,if_neg (fun h2=>h2.1 h)]
  · rw[if_neg h,yK (by rw[qM,Qz big x0 v k (by omega)];omega),qM]
    by_cases h2:atB big (k+1)≤i∧i<atB big (k+1)+szB big (k+1)
    · rw[if_pos h2,if_pos ⟨h,h2⟩]
      simp[qm,qS,Lg,show i - atB big (k+1)<szB big (k+1) by omega]
    · rw[if_neg h2,if_neg (fun h3=>h2 h3.2)]
theorem Zv (big x0:Bool)(v:Nat→Nat)(i:Nat):qm (Qo big x0 v 0) i=0:=by
  unfold Qo qm;simp only[Lg,List.getElem?_replicate];split<;>rfl
theorem qfp {big ext:Bool}{zs:List Int}(hz: ∀z∈zs,0≤z∧z≤255)(hl:zs.length=mB big)(hm:big=true→ ∀i,18≤i→i<32→qm zs i=0)(hx:ext=true→xoZ big ext zs≠0){i:Nat}(hi:i<2*sB big):
    qm (Qo big (yH big ext zs 7==0) (yH big ext zs) 9) i=qm zs i:=by
  have hv: ∀f,1≤f→f≤9→ ¬(f=7∧ext=false)→yH big ext zs f=(qT zs (atB big f) (szE big ext f)).toNat:=fun f h1 h2 h3=>by
    have:=jo (big:=big) (ext:=ext) hz hl h1 h2 h3;omega
  have hb: ∀f j,1≤f→f≤9→ ¬(f=7∧ext=false)→byt (yH big ext zs f) j=if j<szE big ext f then qm zs (atB big f+j) else 0:=fun f j h1 h2 h3=>by
    rw[hv f h1 h2 h3];have hs:=QJ big ext f h1 h2;exact qdN hz _ _ (by rw[hl];cases big;(have:=hs.2.2.2 rfl;show _≤32;omega);(show _≤64;omega)) j
  have hx0:(yH big ext zs 7==0)= !ext:=by
    cases ext
    · rfl
    · have h7:((yH big true zs 7:Nat):Int)=xoZ big true zs:=by
        rw[jo hz hl (by omega) (by omega) (by simp)];cases big<;>rfl
      have:=hx rfl
      rw[Bool.not_true,beq_eq_false_iff_ne];omega
  rw[hx0];rw[Ql _ _ _ (k:=8) (by omega),Ql _ _ _ (k:=7) (by omega),Ql _ _ _ (k:=6) (by omega),Ql _ _ _ (k:=5) (by omega),Ql _ _ _ (k:=4) (by omega),Ql _ _ _ (k:=3) (by omega),Ql _ _ _ (k:=2) (by omega),Ql _ _ _ (k:=1) (by omega),Ql _ _ _ (k:=0) (by omega),Zv];rw[hb 9 _ (by omega) (by omega) (by omega),hb 8 _ (by omega) (by omega) (by omega),hb 6 _ (by omega) (by omega) (by omega),hb 5 _ (by omega) (by omega) (by omega),hb 4 _ (by omega) (by omega) (by omega),hb 3 _ (by omega) (by omega) (by omega),hb 2 _ (by omega) (by omega) (by omega),hb 1 _ (by omega) (by omega) (by omega)]
  cases big
  · have hi:i<16:=hi
    rcases(show i=0∨i=1∨i=2∨i=3∨i=4∨i=5∨i=6∨i=7∨i=8∨i=9∨i=10∨i=11∨i=12∨i=13∨i=14∨i=15 by omega)with rfl|rfl|rfl|rfl|rfl|rfl|rfl|rfl|rfl|rfl|rfl|rfl|rfl|rfl|rfl|rfl<;>cases ext<;>simp[atB,szB,szE]<;>(rw[hb 7 _ (by omega) (by omega) (by simp)];simp[atB,szB,szE])
  · have hi:i<32:=hi
    by_cases h18:18≤i
    · rw[hm rfl i h18 hi]
      have n1: ∀f,1≤f→f≤9→ ¬(atB true f≤i∧i<atB true f+szB true f):=fun f h1 h2 h3=>by
        have hs:=QJ true false f h1 h2;rw[show szE true false f=szB true f by simp[szE]]at hs;omega
      rw[if_neg (fun h=>n1 9 (by omega) (by omega) h.2),if_neg (fun h=>n1 8 (by omega) (by omega) h.2),if_neg (fun h=>n1 7 (by omega) (by omega) h.2),if_neg (fun h=>n1 6 (by omega) (by omega) h.2),if_neg (fun h=>n1 5 (by omega) (by omega) h.2),if_neg (fun h=>n1 4 (by omega) (by omega) h.2),if_neg (fun h=>n1 3 (by omega) (by omega) h.2),if_neg (fun h=>n1 2 (by omega) (by omega) h.2),if_neg (fun h=>n1 1 (by omega) (by omega) h.2)]
    · rcases(show i=0∨i=1∨i=2∨i=3∨i=4∨i=5∨i=6∨i=7∨i=8∨i=9∨i=10∨i=11∨i=12∨i=13∨i=14∨i=15∨i=16∨i=17 by omega)with rfl|rfl|rfl|rfl|rfl|rfl|rfl|rfl|rfl|rfl|rfl|rfl|rfl|rfl|rfl|rfl|rfl|rfl<;>cases ext<;>simp[atB,szB,szE]<;>(rw[hb 7 _ (by omega) (by omega) (by simp)];simp[atB,szB,szE])
theorem qfz {big ext:Bool}{zs:List Int}(hz: ∀z∈zs,0≤z∧z≤255)(h:okD big ext zs):QH big (yH big ext zs) (yX big zs) (Yk big zs)=zs:=by
  obtain⟨hl,hm,hx, -⟩:=h;have hM:mB big=4*sB big:=by cases big<;>rfl
  have hle: ∀x:List Int,(yp x).length≤x.length:=fun x=>by unfold yp;rw[List.length_take];omega
  have e1:((zs.drop (2*sB big)).take (sB big)).length=sB big:=by simp;omega
  have e2:((zs.drop (3*sB big)).take (sB big)).length=sB big:=by simp;omega
  have l1:(yX big zs).length≤sB big:=Nat.le_trans (hle _) (by omega);have l2:(Yk big zs).length≤sB big:=Nat.le_trans (hle _) (by omega);have hF:=Qz big (yH big ext zs 7==0) (yH big ext zs) 9 (by omega);have hlen:=QV (big:=big) (v:=yH big ext zs) l1 l2;have hz0: ∀i,2*sB big≤i→qm (Qo big (yH big ext zs 7==0) (yH big ext zs) 9) i=0:=fun i hi=>by
    have hs16:16≤2*sB big∧(big=true→18≤2*sB big):=by cases big<;>decide
    have n1: ∀f,1≤f→f≤9→ ¬(atB big f≤i∧i<atB big f+szB big f):=fun f h1 h2 h3=>by
      have hs:=QJ big false f h1 h2;rw[show szE big false f=szB big f by simp[szE]]at hs
      cases big
      · have:=hs.2.2.2 rfl;omega
      · have:=hs16.2 rfl;omega
    rw[Ql _ _ _ (k:=8) (by omega),Ql _ _ _ (k:=7) (by omega),Ql _ _ _ (k:=6) (by omega),Ql _ _ _ (k:=5) (by omega),Ql _ _ _ (k:=4) (by omega),Ql _ _ _ (k:=3) (by omega),Ql _ _ _ (k:=2) (by omega),Ql _ _ _ (k:=1) (by omega),Ql _ _ _ (k:=0) (by omega),Zv];rw[if_neg (fun h=>n1 9 (by omega) (by omega) h.2),if_neg (fun h=>n1 8 (by omega) (by omega) h.2),if_neg (fun h=>n1 7 (by omega) (by omega) h.2),if_neg (fun h=>n1 6 (by omega) (by omega) h.2),if_neg (fun h=>n1 5 (by omega) (by omega) h.2),if_neg (fun h=>n1 4 (by omega) (by omega) h.2),if_neg (fun h=>n1 3 (by omega) (by omega) h.2),if_neg (fun h=>n1 2 (by omega) (by omega) h.2),if_neg (fun h=>n1 1 (by omega) (by omega) h.2)]
  have key: ∀i,i<mB big→qm (QH big (yH big ext zs) (yX big zs) (Yk big zs)) i=qm zs i:=fun i hi=>by
    have hS1:(qU (Qo big (yH big ext zs 7==0) (yH big ext zs) 9) (2*sB big) (yX big zs)).length=mB big:=by rw[qX (by omega),hF]
    unfold QH;rw[yK (by omega),yK (by omega)];by_cases h3:3*sB big≤i
    · have hj:i - 3*sB big<((zs.drop (3*sB big)).take (sB big)).length:=by omega
      have ht:=qaK hj;rw[JQ (by omega),show 3*sB big+(i - 3*sB big)=i by omega]at ht;by_cases h4:i<3*sB big+(Yk big zs).length
      · rw[if_pos ⟨h3,h4⟩];rw[if_pos (by show _<(Yk big zs).length;omega)]at ht;exact ht.symm
      · rw[if_neg (by omega),if_neg (by omega),hz0 i (by omega)];rw[if_neg (by show ¬_<(Yk big zs).length;omega)]at ht;exact ht.symm
    · rw[if_neg (by omega)]
      by_cases h2:2*sB big≤i
      · have hj:i - 2*sB big<((zs.drop (2*sB big)).take (sB big)).length:=by omega
        have ht:=qaK hj;rw[JQ (by omega),show 2*sB big+(i - 2*sB big)=i by omega]at ht;by_cases h4:i<2*sB big+(yX big zs).length
        · rw[if_pos ⟨h2,h4⟩];rw[if_pos (by show _<(yX big zs).length;omega)]at ht;exact ht.symm
        · rw[if_neg (by omega),hz0 i (by omega)];rw[if_neg (by show ¬_<(yX big zs).length;omega)]at ht;exact ht.symm
      · rw[if_neg (by omega)];exact qfp hz hl hm hx (by omega)
  apply List.ext_getElem (by rw[hlen,hl])
  intro i h1 h2;have:=key i (by omega)
  simpa [qm,Lg,h1,h2] using this
theorem jr {big:Bool}{v:Nat→Nat}{z1 z2:List Int}(h1:z1.length≤sB big)(h2:z2.length≤sB big){i:Nat}(hi:i<2*sB big):qm (QH big v z1 z2) i=qm (Qo big (v 7==0) v 9) i:=by
 have e:=Qz big (v 7==0) v 9 (by omega);have hm:4*sB big=mB big:=by cases big<;>decide
 unfold QH;rw[yK (by rw[qX (by omega)];omega),if_neg (by omega),yK (by omega),if_neg (by omega)]
theorem qF {big x0:Bool}{v:Nat→Nat}(k:Nat){i:Nat}(hk:k+1≤9)(h: ¬(atB big (k+1)≤i∧i<atB big (k+1)+szB big (k+1))):qm (Qo big x0 v (k+1)) i=qm (Qo big x0 v k) i:=by
 rw[Ql big x0 v hk i,if_neg (fun h2=>h h2.2)]
theorem jm {big x0:Bool}{v:Nat→Nat}(k:Nat){i:Nat}(hk:k+1≤9)(h7:k+1≠7)(h:atB big (k+1)=i):qm (Qo big x0 v (k+1)) i=byt (v (k+1)) 0:=by
 have hs:1≤szB big (k+1):=by
  have:=QJ big false (k+1) (by omega) hk
  simpa [szE] using this.1
 rw[Ql big x0 v hk i,if_pos ⟨fun h2=>h7 h2.1,by omega,by omega⟩,←h,Nat.sub_self]
theorem Zy {x:Nat}(h:x≤255):byt x 0=(x:Int):=by
 have:=YY x 0
 simp at this
 omega
theorem qfW {big:Bool}{v:Nat→Nat}{z1 z2:List Int}(hP:ParOk big v)(h1:z1.length≤sB big)(h2:z2.length≤sB big):okD big false (QH big v z1 z2)∧qm (QH big v z1 z2) 1=(v 2:Nat):=by
 have hs:8≤sB big:=by cases big<;>decide
 have hm:mB big≤64:=by cases big<;>decide
 obtain⟨p1,p2,p3,p4, -,p6,p7⟩:=hP.p;have g0:qm (QH big v z1 z2) 0=(v 1:Nat):=by
  rw[jr h1 h2 (by omega),qF 8 (by omega) (by cases big<;>decide),qF 7 (by omega) (by cases big<;>decide),qF 6 (by omega) (by cases big<;>decide),qF 5 (by omega) (by cases big<;>decide),qF 4 (by omega) (by cases big<;>decide),
   qF 3 (by omega) (by cases big<;>decide),qF 2 (by omega) (by cases big<;>decide),qF 1 (by omega) (by cases big<;>decide),jm 0 (by omega) (by omega) (by cases big<;>rfl)]
  exact Zy (x:=v 1) (by omega)
 have g1:qm (QH big v z1 z2) 1=(v 2:Nat):=by
  rw[jr h1 h2 (by omega),qF 8 (by omega) (by cases big<;>decide),qF 7 (by omega) (by cases big<;>decide),qF 6 (by omega) (by cases big<;>decide),qF 5 (by omega) (by cases big<;>decide),qF 4 (by omega) (by cases big<;>decide),
   qF 3 (by omega) (by cases big<;>decide),qF 2 (by omega) (by cases big<;>decide),jm 1 (by omega) (by omega) (by cases big<;>rfl)]
  exact Zy (x:=v 2) (by omega)
 have g3:qm (QH big v z1 z2) 3=(v 4:Nat):=by
  rw[jr h1 h2 (by omega),qF 8 (by omega) (by cases big<;>decide),qF 7 (by omega) (by cases big<;>decide),qF 6 (by omega) (by cases big<;>decide),qF 5 (by omega) (by cases big<;>decide),qF 4 (by omega) (by cases big<;>decide),
   jm 3 (by omega) (by omega) (by cases big<;>rfl)]
  exact Zy (x:=v 4) (by omega)
 have h9:atB big 9<2*sB big:=by cases big<;>decide
 have g9:qm (QH big v z1 z2) (atB big 9)=(v 9:Nat):=by
  rw[jr h1 h2 h9,jm 8 (by omega) (by omega) rfl];exact Zy (x:=v 9) (by omega)
 refine⟨⟨QV h1 h2,fun hb i i1 i2=>?_,fun h=>(by cases h),?_⟩,g1⟩
 ·subst hb;have hsi:i<2*sB true:=i2;have ha: ∀k,k<9→ ¬(atB true (k+1)≤i∧i<atB true (k+1)+szB true (k+1)):=fun k hk h=>by
   have:atB true (k+1)+szB true (k+1)≤18:=by
    rcases(show k=0∨k=1∨k=2∨k=3∨k=4∨k=5∨k=6∨k=7∨k=8 by omega)with rfl|rfl|rfl|rfl|rfl|rfl|rfl|rfl|rfl<;>decide
   omega
  rw[jr h1 h2 hsi,qF 8 (by omega) (ha 8 (by omega)),qF 7 (by omega) (ha 7 (by omega)),qF 6 (by omega) (ha 6 (by omega)),qF 5 (by omega) (ha 5 (by omega)),qF 4 (by omega) (ha 4 (by omega)),qF 3 (by omega) (ha 3 (by omega)),
   qF 2 (by omega) (ha 2 (by omega)),qF 1 (by omega) (ha 1 (by omega)),qF 0 (by omega) (ha 0 (by omega)),Zv]
 ·rw[g0,g1,g3,g9];exact⟨p1,p2,fun _=>p4.1,p7⟩
end Go.Proofs.YtdndeffmlhaipaaGreatDoor
namespace Go.Proofs.YtdndeffmlhaipaaGreatDoor
open Go.ChangeShapes Go.WideShapes Go.ChangeAt Go.RowKit Go.Joins Go.Shelf Go.Maps
open Go.Lib (hid)
attribute [local go_sem] Oper.semAt_some
theorem qeg {zs:List Int}{i p n:Nat}(h:i<n):qm ((zs.drop p).take n) i=qm zs (p+i):=by
 unfold qm;simp[Lg,List.getElem?_take,h,List.getElem?_drop]
theorem jL {w w':World}{a:Option Addr}{n c:Nat}{zs:List Int}(h:Hold w (.slice a n c) zs)(hb:Below w.heap.size w w'){j:Nat}(hj:j<zs.length): ∃b off,a=some ⟨b,off,none⟩∧b<w'.heap.size∧w'.cell? ⟨b,off+j,none⟩=some (.int .u8 (qm zs j))∧0≤qm zs j∧qm zs j≤255:=by
 have hne:zs≠[]:=fun e=>by rw[e]at hj;simp at hj
 rcases h.2 with⟨h2, -⟩|⟨ad,cap,e, -, -,h3⟩
 ·exact absurd h2 hne
 ·obtain⟨b,off,rfl,h4,h5⟩:=h3.resolve_left hne;simp only[Value.slice.injEq]at e;exact⟨b,off,e.1,Nat.lt_of_lt_of_le h4 hb.size,(hb.cell (p:=⟨b,off+j,none⟩) h4).trans (h5 j hj),(qL h.1 hj).2⟩
theorem Zk (lo n:Nat)(h:lo+n<9223372036854775808)(w:World):
  Calls Tryz.prog 128 #[.int .u64 (lo:Nat),.int .u64 0,.int .u64 (n:Nat)] w fun e w'=>e= .returned (.tuple #[.int .u64 ((lo+n:Nat):Int),.int .u64 0,.bool false])∧w'=w:=by
 have q1:IntKind.u64.wrap ((lo:Int)+n)=(lo:Int)+n:=u64_wrap_id _ (by omega) (by omega);have q2: ¬((lo:Int)+n<lo):=by omega
 have q3:(lo:Int)≤(lo:Int)+n:=by omega
 rw[Int.natCast_add];clear h;go_enter Tryz.func128,Tryz.ntmps128
 go_wp2
 exact Bp (results_tmp3 (fn:=Tryz.f128) (t:=6) (u:=7) (v:=8) rfl _ _ _) rfl ⟨rfl,rfl⟩
theorem jd {n:Nat}{x:List Int}{j:Nat}(hj:j<n)(hx:x.length≤n):(Qp n x).take (j+1)=(Qp n x).take j++[if j<x.length then qm x j else 0]:=by
 have hl:=Qv hx;rw[Ze (zs:=Qp n x) (by omega)];congr 2
 unfold Qp qm;simp only[Lg];by_cases h:j<x.length
 ·rw[if_pos h,List.getElem?_append_left h]
 ·rw[if_neg h,List.getElem?_append_right (by omega),List.getElem?_replicate,if_pos (by omega)];rfl
theorem Zj (zs:List Int)(v:Value)(p n:Nat)(w:World)(h:Hold w v zs)(hn:n≤65535)(hp:p≤zs.length)(hm:(zs.length:Int)≤281474976710656):
  Calls Tryz.prog 131 #[v,.int .i64 (p:Nat),.int .i64 (n:Nat)] w fun e w'=> ∃v',e= .returned v'∧w'.ownsRow w.heap.size 5 1 v' n ((Qp n ((zs.drop p).take n)).map qo)∧Below w.heap.size w w':=by
 obtain⟨i0,hi,hz0,hz1,hz2⟩:=info_parts Qg;obtain⟨a,cap,rfl,hc1,hc2⟩:=h.slice;have HH:=hid h;obtain⟨X,hX⟩:=Ex ((zs.drop p).take n);have hXl:X.length=min n (zs.length - p):=by rw[←hX];simp
 have hXg: ∀j,j<X.length→qm X j=qm zs (p+j):=fun j hj=>by rw[←hX];exact qeg (by omega)
 have hPl:=Qv (n:=n) (zs:=X) (by omega);rw[hX];have HXL:=hid hXl;have HXG:=hid hXg;have HPL:=hid hPl;clear h hX hXl hXg hPl;go_enter Tryz.func131,Tryz.ntmps131
 go_wp2_with fail
 go_loopw [7,8] (fun b i wr=> ∃j:Nat,i= .int .i64 (j:Nat)∧j≤n∧wr.ownsRow w.heap.size 5 1 b j (((Qp n X).take j).map qo)∧Below w.heap.size w wr) (fun _ i _=>n - (intOf i).toNat)
 case atStart=>exact⟨0,rfl,Nat.zero_le _,by simpa using Wo w w.heap.size 5 1,Below.refl _ _⟩
 case round=>
  obtain⟨j,rfl,hj,hown,hb⟩:=hrel;have HB:=hid hb;have HO:=hid hown;obtain⟨a1,n1,c1,rfl⟩:=qp hown;by_cases hlt:j<n
  case neg=>
   obtain rfl:j=n:=by omega
   clear hown hb;go_wp2
   go_ret
   refine⟨_,rfl,?_,HB.out⟩;have:=HO.out
   rwa[List.take_of_length_le (by rw[HPL.out];exact Nat.le_refl _)]at this
  have hps:=jd (x:=X) hlt (by have:=HXL.out;omega);have HPS:=hid hps;clear hps hown;by_cases hin:p+j<zs.length
  case pos=>
   have hjX:j<X.length:=by have:=HXL.out;omega
   have hZ:=HPS.out;rw[if_pos hjX,HXG.out j hjX]at hZ;have HZ:=hid hZ;obtain⟨bb,of',rfl,q1,q2,q3,q4⟩:=jL HH.out hb hin;have hpj:(p:Int)+j<zs.length:=by omega
   have hpj2:0≤(p:Int)+j∧(p:Int)+j<9223372036854775808:=by omega
   obtain⟨hpj3,hpj4⟩:=hpj2;generalize qm zs (p+j)=z at*;clear hb hZ HPS;go_wp2_with (at_builtin;refine wpList_append_own _ rfl _ _ 24 rfl w.heap.size 5 i0 (.int .u8 0) 1 1 Tryz.underlying24 hi hz0 hz1 hz2 rfl (by decide) _ _ _ rfl (HO.out.alloc _) ⟨wr.heap.size,0,none⟩ 1 1 [.int .u8 z] rfl rfl (cell_one_new _ _ _) (by simp[Value.oneCell']) (by unfold maxLen;omega) (by omega) (by simp;have:=HB.out.size;omega) ?_;intro v' w6 hown' hgrow _;have hb3:Below w.heap.size w w6:=(HB.out.alloc HB.out.size _).grown hgrow (by simp;have:=HB.out.size;omega) (fun k e=>(HO.out.lt k e).1))
   refine⟨⟨j+1,rfl,by omega,by rw[HZ.out,List.map_append];exact hown',hb3⟩,by simp[intOf];omega⟩
  have hZ:=HPS.out;rw[if_neg (by have:=HXL.out;omega)]at hZ;have HZ:=hid hZ;have hpj: ¬((p:Int)+j<zs.length):=by omega
  clear hb hZ HPS;go_wp2_with (at_builtin;refine wpList_append_own _ rfl _ _ 24 rfl w.heap.size 5 i0 (.int .u8 0) 1 1 Tryz.underlying24 hi hz0 hz1 hz2 rfl (by decide) _ _ _ rfl (HO.out.alloc _) ⟨wr.heap.size,0,none⟩ 1 1 [.int .u8 0] rfl rfl (cell_one_new _ _ _) (by simp[Value.oneCell']) (by unfold maxLen;omega) (by omega) (by simp;have:=HB.out.size;omega) ?_;intro v' w6 hown' hgrow _;have hb3:Below w.heap.size w w6:=(HB.out.alloc HB.out.size _).grown hgrow (by simp;have:=HB.out.size;omega) (fun k e=>(HO.out.lt k e).1))
  refine⟨⟨j+1,rfl,by omega,by rw[HZ.out,List.map_append];exact hown',hb3⟩,by simp[intOf];omega⟩
theorem qbY (big:Bool)(zs:List Int)(v:Value)(w:World)(h:Hold w v zs)(hk:zs.length≤mB big):
  Calls Tryz.prog 126 #[.int .i64 (kB big),v] w fun e w'=> ∃v',e= .returned v'∧w'.ownsRow w.heap.size 5 1 v' (QY (bB big) zs).length ((QY (bB big) zs).map qo)∧Below w.heap.size w w':=by
 obtain⟨i0,hi,hz0,hz1,hz2⟩:=info_parts Qg;obtain⟨a,cap,rfl,hc1,hc2⟩:=h.slice;have hMB:mB big≤bB big∧bB big≤128:=by cases big<;>decide
 obtain⟨n,hn⟩:=Ex (bB big);have hBK:=hid (fun(W:World)=>Yj big W);rw[hn]at hBK hMB⊢;have HH:=hid h;have HMB:=hid hMB;by_cases h0:zs.length=0
 case pos=>
  have e:QY n zs=[]:=by unfold QY;rw[if_pos h0]
  rw[e];obtain rfl:zs=[]:=List.eq_nil_of_length_eq_zero h0;clear hMB h hn hk;go_enter Tryz.func126,Tryz.ntmps126
  go_wp2
  go_ret
  exact⟨_,rfl,Wo _ _ _ _,Below.refl _ _⟩
 have e:QY n zs=Qp n zs:=by unfold QY;rw[if_neg h0]
 have hPl:=Qv (n:=n) (zs:=zs) (by omega);rw[e,hPl];have HPL:=hid hPl;have hz1':0<zs.length:=by omega
 have hq0:((zs.length:Int)==0)=false:=beq_eq_false_iff_ne.2 (by omega);have hzl:(zs.length:Int)≤128:=by omega
 have hnl:(n:Int)≤128:=by omega
 have HK:=hid hk;clear h hPl e h0 hMB hn hk;go_enter Tryz.func126,Tryz.ntmps126
 go_wp2_with fail
 go_loopw [5,6] (fun b i wr=> ∃j:Nat,i= .int .i64 (j:Nat)∧j≤n∧wr.ownsRow w.heap.size 5 1 b j (((Qp n zs).take j).map qo)∧Below w.heap.size w wr) (fun _ i _=>n - (intOf i).toNat)
 case atStart=>exact⟨0,rfl,Nat.zero_le _,by simpa using Wo w w.heap.size 5 1,Below.refl _ _⟩
 case round=>
  obtain⟨j,rfl,hj,hown,hb⟩:=hrel;have HB:=hid hb;have HO:=hid hown;obtain⟨a1,n1,c1,rfl⟩:=qp hown;by_cases hlt:j<n
  case neg=>
   obtain rfl:j=n:=by omega
   clear hown hb;go_wp2_with fail
   refine(hBK.out _).mono ?_;rintro e w4 ⟨rfl,hw⟩;rw[hw];clear hw;go_wp2
   go_ret
   refine⟨_,rfl,?_,HB.out⟩;have:=HO.out
   rwa[List.take_of_length_le (by rw[HPL.out];exact Nat.le_refl _)]at this
  have hps:=jd (x:=zs) hlt (by have:=HMB.out;have:=HK.out;omega);have HPS:=hid hps;have hjn:(j:Int)<n:=by omega
  clear hps hown;by_cases hin:j<zs.length
  case pos=>
   have hZ:=HPS.out;rw[if_pos hin]at hZ;have HZ:=hid hZ;obtain⟨bb,of',rfl,q1,q2,q3,q4⟩:=jL HH.out hb hin;have hpj:(j:Int)<zs.length:=by omega
   generalize qm zs j=z at*;clear hb hZ HPS;go_wp2_with fail
   refine(hBK.out _).mono ?_;rintro e w4 ⟨rfl,hw⟩;rw[hw];clear hw;go_wp2_with (at_builtin;refine wpList_append_own _ rfl _ _ 24 rfl w.heap.size 5 i0 (.int .u8 0) 1 1 Tryz.underlying24 hi hz0 hz1 hz2 rfl (by decide) _ _ _ rfl (HO.out.alloc _) ⟨wr.heap.size,0,none⟩ 1 1 [.int .u8 z] rfl rfl (cell_one_new _ _ _) (by simp[Value.oneCell']) (by unfold maxLen;omega) (by omega) (by simp;have:=HB.out.size;omega) ?_;intro v' w6 hown' hgrow _;have hb3:Below w.heap.size w w6:=(HB.out.alloc HB.out.size _).grown hgrow (by simp;have:=HB.out.size;omega) (fun k e=>(HO.out.lt k e).1))
   refine⟨⟨j+1,rfl,by omega,by rw[HZ.out,List.map_append];exact hown',hb3⟩,by simp[intOf];omega⟩
  have hZ:=HPS.out;rw[if_neg hin]at hZ;have HZ:=hid hZ;have hpj: ¬((j:Int)<zs.length):=by omega
  clear hb hZ HPS;go_wp2_with fail
  refine(hBK.out _).mono ?_;rintro e w4 ⟨rfl,hw⟩;rw[hw];clear hw;go_wp2_with (at_builtin;refine wpList_append_own _ rfl _ _ 24 rfl w.heap.size 5 i0 (.int .u8 0) 1 1 Tryz.underlying24 hi hz0 hz1 hz2 rfl (by decide) _ _ _ rfl (HO.out.alloc _) ⟨wr.heap.size,0,none⟩ 1 1 [.int .u8 0] rfl rfl (cell_one_new _ _ _) (by simp[Value.oneCell']) (by unfold maxLen;omega) (by omega) (by simp;have:=HB.out.size;omega) ?_;intro v' w6 hown' hgrow _;have hb3:Below w.heap.size w w6:=(HB.out.alloc HB.out.size _).grown hgrow (by simp;have:=HB.out.size;omega) (fun k e=>(HO.out.lt k e).1))
  refine⟨⟨j+1,rfl,by omega,by rw[HZ.out,List.map_append];exact hown',hb3⟩,by simp[intOf];omega⟩
def qB (h:List Int):List Int:=h++List.replicate 8 0
theorem qP {N:Nat}(hN:N≤64){h:List Int}(hh:Words N 8 h):Words 64 16 (qB h):=by
 refine⟨by simp[qB,hh.1],fun z hz=>?_⟩;rcases List.mem_append.1 hz with hz|hz
 ·have:=hh.2 z hz
  have h2:(2:Int)^N≤2^64:=by exact_mod_cast Nat.pow_le_pow_right (by omega) hN
  omega
 ·rw[List.eq_of_mem_replicate hz];decide
theorem Jq {h:List Int}(hh:h.length=8){j:Nat}(hj:j<8):wd (qB h) j=wd h j:=by
 unfold wd qB;simp[Lg,List.getElem?_append_left (show j<h.length by omega)]
def Qk (h b:List Int)(j:Nat):List Int:=h.take j++b.drop j
theorem YA {h b:List Int}{j:Nat}(hj:j<h.length)(hb:j<b.length):(Qk h b j).set j (wd h j)=Qk h b (j+1):=by
 have e1:h.take (j+1)=h.take j++[wd h j]:=by
  rw[List.take_succ_eq_append_getElem hj];simp[wd,Lg,hj]
 have e2:b.drop j=b[j]::b.drop (j+1):=List.drop_eq_getElem_cons hb;have e3:(h.take j).length=j:=by simp;omega
 unfold Qk;rw[e1,e2,List.set_append_right _ _ (by omega),e3,Nat.sub_self,List.set_cons_zero];simp
theorem yo {h b:List Int}{j:Nat}(hj:j≤h.length)(hb:j≤b.length):(Qk h b j).length=b.length:=by simp[Qk];omega
theorem yy {k:IntKind}{L:List Int}{j:Nat}(hj:j<L.length):(qh k L)[j]? =some (.int k (wd L j)):=by
 simp[qh,wd,Lg,hj]
theorem Holds8.mono_below' {w w':World}{v:Value}{zs:List Int}{B:Nat}(h:Holds8 w v zs)(hb:Below B w w')(hB:w.heap.size≤B):Holds8 w' v zs:=Qa h (hb.mono hB)
def Z8:List Int:=List.replicate 8 0
theorem jl {R h:List Int}(hR:R.length=8)(hh:h.length=8):Qk R (qB h) 8=qB R:=by
 unfold Qk qB;rw[List.take_of_length_le (by omega),List.drop_append_of_le_length (by omega),List.drop_of_length_le (by omega),List.nil_append]
theorem JJ (h bs:List Int)(hh:Words 64 8 h)(v:Value)(lo:Nat)(hlo:(lo:Int)<9223372036854775808)(last node:Bool)(w:World)(hH:Holds8 w v bs)(hz: ∀z∈bs,0≤z∧z≤255)(hl:bs.length=128):
  Calls Tryz.prog 130 #[.int .i64 1,.agg (qh .u64 (qB h)),v,.int .u64 (lo:Nat),.int .u64 0,.bool last,.bool node] w fun e w'=>e= .returned (.agg (qh .u64 (qB (Q5 true h bs (lo:Nat) last node))))∧Below w.heap.size w w':=by
 obtain⟨b0,hb0⟩:=Ex w.heap.size;have hMw:=QQ 8 16 hz (by rw[hl]);obtain⟨M,hM⟩:=Ex (QF 8 16 bs);obtain⟨R,hR⟩:=Ex (Q5 true h bs (lo:Nat) last node);have hRw:Words 64 8 R:=by rw[←hR];exact QA true hh _ _ _ _
 have hR2:YW mixBig IVb 12 h M (lo:Nat) 0 last node=R:=by rw[←hR,←hM];rfl
 rw[hR];rw[hM]at hMw;have hS16:=qP (by decide) hh;have hwd: ∀j,j<8→wd (qB h) j=wd h j:=fun j hj=>Jq hh.1 hj
 have HM_:=hid hM;have HR2_:=hid hR2;have HL_:=hid hl;have HLO_:=hid hlo;have HMW_:=hid hMw;have HRW_:=hid hRw;have HH_:=hid hh;have HS16_:=hid hS16;have HWD_:=hid hwd;have HZ_:=hid hz;have HHB_:=hid hH;clear hM hR hR2 hl hlo hMw hRw hwd hS16 hz hH hh;go_enter Tryz.func130,Tryz.ntmps130
 go_wp2_with fail
 have hs3:(((w.alloc (.cells (qh .u64 (qB h)) 181)).alloc (.cells #[.int .u64 0,.int .u64 0,.int .u64 0,.int .u64 0,.int .u64 0,.int .u64 0,.int .u64 0,.int .u64 0,.int .u64 0,.int .u64 0,.int .u64 0,.int .u64 0,.int .u64 0,.int .u64 0,.int .u64 0,.int .u64 0] 181)).alloc (.cells (qh .u64 Z8) 150)).heap.size=b0+3:=by simp[hb0]
 have r0:(((w.alloc (.cells (qh .u64 (qB h)) 181)).alloc (.cells #[.int .u64 0,.int .u64 0,.int .u64 0,.int .u64 0,.int .u64 0,.int .u64 0,.int .u64 0,.int .u64 0,.int .u64 0,.int .u64 0,.int .u64 0,.int .u64 0,.int .u64 0,.int .u64 0,.int .u64 0,.int .u64 0] 181)).alloc (.cells (qh .u64 Z8) 150)).heap[b0]? =some (.cells (qh .u64 (qB h)) 181 (0,0)):=by
  rw[Bh _ _ _ (by simp[hb0];omega),Bh _ _ _ (by simp[hb0]),←hb0];exact Wn _ _
 have r1:(((w.alloc (.cells (qh .u64 (qB h)) 181)).alloc (.cells #[.int .u64 0,.int .u64 0,.int .u64 0,.int .u64 0,.int .u64 0,.int .u64 0,.int .u64 0,.int .u64 0,.int .u64 0,.int .u64 0,.int .u64 0,.int .u64 0,.int .u64 0,.int .u64 0,.int .u64 0,.int .u64 0] 181)).alloc (.cells (qh .u64 Z8) 150)).heap[b0+1]? =some (.cells #[.int .u64 0,.int .u64 0,.int .u64 0,.int .u64 0,.int .u64 0,.int .u64 0,.int .u64 0,.int .u64 0,.int .u64 0,.int .u64 0,.int .u64 0,.int .u64 0,.int .u64 0,.int .u64 0,.int .u64 0,.int .u64 0] 181 (0,0)):=by
  rw[Bh _ _ _ (by simp[hb0]),show b0+1=(w.alloc (.cells (qh .u64 (qB h)) 181)).heap.size by simp[hb0]];exact Wn _ _
 have r2:(((w.alloc (.cells (qh .u64 (qB h)) 181)).alloc (.cells #[.int .u64 0,.int .u64 0,.int .u64 0,.int .u64 0,.int .u64 0,.int .u64 0,.int .u64 0,.int .u64 0,.int .u64 0,.int .u64 0,.int .u64 0,.int .u64 0,.int .u64 0,.int .u64 0,.int .u64 0,.int .u64 0] 181)).alloc (.cells (qh .u64 Z8) 150)).heap[b0+1+1]? =some (.cells (qh .u64 (Qk h Z8 0)) 150 (0,0)):=by
  rw[show b0+1+1=((w.alloc (.cells (qh .u64 (qB h)) 181)).alloc (.cells #[.int .u64 0,.int .u64 0,.int .u64 0,.int .u64 0,.int .u64 0,.int .u64 0,.int .u64 0,.int .u64 0,.int .u64 0,.int .u64 0,.int .u64 0,.int .u64 0,.int .u64 0,.int .u64 0,.int .u64 0,.int .u64 0] 181)).heap.size by simp[hb0]];exact Wn _ _
 have hb3:Below b0 w (((w.alloc (.cells (qh .u64 (qB h)) 181)).alloc (.cells #[.int .u64 0,.int .u64 0,.int .u64 0,.int .u64 0,.int .u64 0,.int .u64 0,.int .u64 0,.int .u64 0,.int .u64 0,.int .u64 0,.int .u64 0,.int .u64 0,.int .u64 0,.int .u64 0,.int .u64 0,.int .u64 0] 181)).alloc (.cells (qh .u64 Z8) 150)):=by rw[←hb0];exact((Br.alloc Nl _).alloc (by simp) _).alloc (by simp;omega) _
 change Code.wp _ _ _ _ (((w.alloc (.cells (qh .u64 (qB h)) 181)).alloc (.cells #[.int .u64 0,.int .u64 0,.int .u64 0,.int .u64 0,.int .u64 0,.int .u64 0,.int .u64 0,.int .u64 0,.int .u64 0,.int .u64 0,.int .u64 0,.int .u64 0,.int .u64 0,.int .u64 0,.int .u64 0,.int .u64 0] 181)).alloc (.cells (qh .u64 Z8) 150))
 generalize (((w.alloc (.cells (qh .u64 (qB h)) 181)).alloc (.cells #[.int .u64 0,.int .u64 0,.int .u64 0,.int .u64 0,.int .u64 0,.int .u64 0,.int .u64 0,.int .u64 0,.int .u64 0,.int .u64 0,.int .u64 0,.int .u64 0,.int .u64 0,.int .u64 0,.int .u64 0,.int .u64 0] 181)).alloc (.cells (qh .u64 Z8) 150))=W3 at*;have R0:=hid r0;have R1:=hid r1;have R2:=hid r2;have HB3:=hid hb3;clear r0 r1 r2 hb3;go_loopw [16] (fun i wr=> ∃j:Nat,i= .int .i64 (j:Nat)∧j≤8∧wr.heap[b0+1+1]? =some (.cells (qh .u64 (Qk h Z8 j)) 150 (0,0))∧But (b0+1+1) W3 wr) (fun i _=>8 - (intOf i).toNat)
 case atStart=>exact⟨0,rfl,by omega,R2.out,But.refl _ _⟩
 case round=>
  obtain⟨j,rfl,hj,hrow,hb⟩:=hrel;have HROW:=hid hrow;have HB:=hid hb;have hwrs:b0+3≤wr.heap.size:=by have:=hb.size;omega
  by_cases hlt:j<8
  case pos=>
   have c0:wr.cell? ⟨b0,j,none⟩=some (.int .u64 (wd h j)):=by
    rw[qa ((hb.block b0 (by omega) (by omega)).trans R0.out) j,yy (by rw[HS16_.out.1];omega),HWD_.out j hlt]
   have hfl:(Qk h Z8 j).length=8:=yo (by rw[HH_.out.1];omega) (by show j≤8;omega);have c1:wr.cell? ⟨b0+1+1,j,none⟩=some (.int .u64 (wd (Qk h Z8 j) j)):=by rw[qa hrow j,yy (by omega)]
   have f1:=frozen_of_row wr (b0+1+1) j _ _ hrow;have hst:=heap_setCell_same wr (b0+1+1) j _ _ (.int .u64 (wd h j)) hrow;rw[qR,YA (by rw[HH_.out.1];omega) (by show j<8;omega)]at hst;have hbd:=Q3 HH_.out hlt;have HST:=hid hst;have hjj:(j:Int)<8:=by omega
   generalize wd (Qk h Z8 j) j=zo at c1;generalize wd h j=zj at*;obtain⟨hbd1,hbd2⟩:=hbd;clear hst hfl hrow hb;go_wp2
   exact⟨⟨j+1,rfl,by omega,HST.out,HB.out.set _ _⟩,by simp[intOf];omega⟩
  obtain rfl:j=8:=by omega
  rw[show Qk h Z8 8=h by unfold Qk;rw[List.take_of_length_le (by rw[HH_.out.1];omega)];simp[Z8]]at HROW;have hh8:=HHB_.out.mono_below' (HB3.out.trans (hb.below (by omega) (by omega))) (by omega);have HH8:=hid hh8;clear hrow hb hh8 hj hlt;go_wp2_with fail
  refine(qak bs v _ HH8.out HZ_.out HL_.out).mono ?_;rintro e w1 ⟨rfl,hb1⟩;rw[HM_.out];have hs1:=hb1.size;have k0:=qe ((HB.out.block b0 (by omega) (by omega)).trans R0.out) hb1;have k1:=qe ((HB.out.block (b0+1) (by omega) (by omega)).trans R1.out) hb1;have k2:=qe HROW.out hb1;have hbw:Below b0 w w1:=(HB3.out.trans (HB.out.below (by omega) (by omega))).trans (hb1.mono (by omega));have K0:=hid k0;have K1:=hid k1;have K2:=hid k2;have HBW:=hid hbw;clear k0 k1 k2 hbw hb1 HB HROW R0 R1 R2 HB3 HH8;go_upto_region 8 with((with_reducible show wpList _ _ _ (Oper.mk none (Op.store 181 _ _) _ _ _ _::_) _ _);refine wpList_store_row rfl 181 _ _ rfl w1.heap.size (qh .u64 M) rfl rfl 181 _ (Wn _ _) (by rw[qd,HMW_.out.1];kernel_rfl) (by rw[qd,HMW_.out.1];rfl) qv ?_)
  refine qj ?_;intro W hW;obtain⟨bv,hbv⟩:=Ex w1.heap.size;have g0:W.heap[b0]? =some (.cells (qh .u64 (qB h)) 181 (0,0)):=by rw[hW];exact(setRow_other (w1.alloc _) _ _ _ (by omega)).trans ((Bh _ _ _ (by omega)).trans K0.out)
  have g1:W.heap[b0+1]? =some (.cells #[.int .u64 0,.int .u64 0,.int .u64 0,.int .u64 0,.int .u64 0,.int .u64 0,.int .u64 0,.int .u64 0,.int .u64 0,.int .u64 0,.int .u64 0,.int .u64 0,.int .u64 0,.int .u64 0,.int .u64 0,.int .u64 0] 181 (0,0)):=by rw[hW];exact(setRow_other (w1.alloc _) _ _ _ (by omega)).trans ((Bh _ _ _ (by omega)).trans K1.out)
  have g2:W.heap[b0+1+1]? =some (.cells (qh .u64 h) 150 (0,0)):=by rw[hW];exact(setRow_other (w1.alloc _) _ _ _ (by omega)).trans ((Bh _ _ _ (by omega)).trans K2.out)
  have g3:W.heap[bv]? =some (.cells (qh .u64 M) 181 (0,0)):=by rw[hW,←hbv];exact setRow_heap _ _ _ _ _ _ (Wn _ _)
  have hB2:Below b0 w W:=by rw[hW];exact below_setRow (HBW.out.alloc (by omega) _) (by omega) _
  rw[hbv];have hbvb:b0+3≤bv:=by omega
  clear hW hbv K0 K1 K2 HBW hs1 hwrs;go_wp2_with (first|((with_reducible show wpList _ _ _ (Oper.mk (some 41) _ _ _ _ _::_) _ _);refine wpList_load_row rfl 150 _ rfl (b0+1+1) rfl _ _ _ _ g2 Tryz.underlying150 rfl (by rw[qd,HH_.out.1];kernel_rfl) ?_)|((with_reducible show wpList _ _ _ (Oper.mk (some 42) _ _ _ _ _::_) _ _);refine wpList_load_row rfl 181 _ rfl bv rfl _ _ _ _ g3 Tryz.underlying181 rfl (by rw[qd,HMW_.out.1];kernel_rfl) ?_))
  refine(qgl h M HH_.out HMW_.out (lo:Nat) 0 last node _).mono ?_;rintro e w2 ⟨rfl,hb2⟩;rw[HR2_.out];have hs2:=hb2.size;have hWs:=(Ai g3).1;have j0:=qe g0 hb2;have j1:=qe g1 hb2;have j2:=qe g2 hb2;have hB3:Below b0 w w2:=hB2.trans (hb2.mono (by omega));clear g0 g1 g2 g3 hB2 hb2;go_upto_region 9 with((with_reducible show wpList _ _ _ (Oper.mk none (Op.store 150 _ _) _ _ _ _::_) _ _);refine wpList_store_row rfl 150 _ _ rfl (b0+1+1) (qh .u64 R) rfl rfl 150 _ j2 (by rw[qd,HRW_.out.1];kernel_rfl) (by rw[qd,qd,HRW_.out.1,HH_.out.1]) qv ?_)
  refine qj ?_;intro W7 hW7;have m0:W7.heap[b0]? =some (.cells (qh .u64 (Qk R (qB h) 0)) 181 (0,0)):=by rw[hW7];exact(setRow_other w2 _ _ _ (by omega)).trans j0
  have m1:W7.heap[b0+1]? =some (.cells #[.int .u64 0,.int .u64 0,.int .u64 0,.int .u64 0,.int .u64 0,.int .u64 0,.int .u64 0,.int .u64 0,.int .u64 0,.int .u64 0,.int .u64 0,.int .u64 0,.int .u64 0,.int .u64 0,.int .u64 0,.int .u64 0] 181 (0,0)):=by rw[hW7];exact(setRow_other w2 _ _ _ (by omega)).trans j1
  have m2:W7.heap[b0+1+1]? =some (.cells (qh .u64 R) 150 (0,0)):=by rw[hW7];exact setRow_heap _ _ _ _ _ _ j2
  have hB7:Below b0 w W7:=by rw[hW7];exact below_setRow hB3 (by omega) _
  have hs7:b0+3≤W7.heap.size:=by rw[hW7,setRow_size];omega
  have M0:=hid m0;have M1:=hid m1;have M2:=hid m2;have HB7:=hid hB7;clear hW7 m0 m1 m2 hB7 j0 j1 j2 hB3 hs2 hWs hbvb;go_wp2_with fail
  go_loopw [19] (fun i wr=> ∃j:Nat,i= .int .i64 (j:Nat)∧j≤8∧wr.heap[b0]? =some (.cells (qh .u64 (Qk R (qB h) j)) 181 (0,0))∧But b0 W7 wr) (fun i _=>8 - (intOf i).toNat)
  case atStart=>exact⟨0,rfl,by omega,M0.out,But.refl _ _⟩
  case round=>
   obtain⟨j,rfl,hj,hrow,hb⟩:=hrel;have HROW:=hid hrow;have HB:=hid hb;have hwrs:b0+3≤wr.heap.size:=by have:=hb.size;omega
   have h16:(qB h).length=16:=HS16_.out.1;by_cases hlt:j<8
   case pos=>
    have c0:wr.cell? ⟨b0+1+1,j,none⟩=some (.int .u64 (wd R j)):=by rw[qa ((hb.block (b0+1+1) (by omega) (by omega)).trans M2.out) j,yy (by rw[HRW_.out.1];omega)]
    have hfl:(Qk R (qB h) j).length=16:=by rw[yo (by rw[HRW_.out.1];omega) (by omega),h16]
    have c1:wr.cell? ⟨b0,j,none⟩=some (.int .u64 (wd (Qk R (qB h) j) j)):=by rw[qa hrow j,yy (by omega)]
    have f1:=frozen_of_row wr b0 j _ _ hrow;have hst:=heap_setCell_same wr b0 j _ _ (.int .u64 (wd R j)) hrow;rw[qR,YA (by rw[HRW_.out.1];omega) (by omega)]at hst;have hbd:=Q3 HRW_.out hlt;have HST:=hid hst;have hjj:(j:Int)<8:=by omega
    generalize wd (Qk R (qB h) j) j=zo at c1;generalize wd R j=zj at*;obtain⟨hbd1,hbd2⟩:=hbd;clear hst hfl hrow hb h16;go_wp2
    exact⟨⟨j+1,rfl,by omega,HST.out,HB.out.set _ _⟩,by simp[intOf];omega⟩
   obtain rfl:j=8:=by omega
   rw[jl HRW_.out.1 HH_.out.1]at hrow;have n1:=(hb.block (b0+1) (by omega) (by omega)).trans M1.out;have hb9:Below b0 w wr:=HB7.out.trans (hb.below Nl (by omega));have hR16:=qP (by decide) HRW_.out;clear hb h16 hj hlt HROW;go_wp2_with (first|((with_reducible show wpList _ _ _ (Oper.mk (some 57) _ _ _ _ _::_) _ _);refine wpList_load_row rfl 181 _ rfl b0 rfl _ _ _ _ hrow Tryz.underlying181 rfl (by rw[qd,hR16.1];kernel_rfl) ?_)|((with_reducible show wpList _ _ _ (Oper.mk none (Op.store 181 _ _) _ _ _ _::_) _ _);refine wpList_store_row rfl 181 _ _ rfl (b0+1) (qh .u64 (qB R)) rfl rfl 181 _ n1 (by rw[qd,hR16.1];kernel_rfl) (by rw[qd,hR16.1];rfl) qv ?_))
   exact Bp (results_cell_row rfl _ _ (b0+1) 181 _ _ _ rfl (setRow_heap _ _ _ _ _ _ n1) Tryz.underlying181 rfl (by rw[qd,hR16.1];kernel_rfl)) rfl ⟨rfl,by rw[hb0];exact below_setRow hb9 (by omega) _⟩
theorem j8 (h bs:List Int)(hh:Words 32 8 h)(v:Value)(lo:Nat)(hlo:(lo:Int)<9223372036854775808)(last node:Bool)(w:World)(hH:Holds8 w v bs)(hz: ∀z∈bs,0≤z∧z≤255)(hl:bs.length=64):
  Calls Tryz.prog 130 #[.int .i64 2,.agg (qh .u64 (qB h)),v,.int .u64 (lo:Nat),.int .u64 0,.bool last,.bool node] w fun e w'=>e= .returned (.agg (qh .u64 (qB (Q5 false h bs (lo:Nat) last node))))∧Below w.heap.size w w':=by
 obtain⟨b0,hb0⟩:=Ex w.heap.size;have hMw:=QQ 4 16 hz (by rw[hl]);obtain⟨M,hM⟩:=Ex (QF 4 16 bs);obtain⟨R,hR⟩:=Ex (Q5 false h bs (lo:Nat) last node);have hRw:Words 32 8 R:=by rw[←hR];exact QA false hh _ _ _ _
 have hR2:YW mixSmall IVs 10 h M ((lo:Nat)%4294967296) ((lo:Nat)/4294967296) last node=R:=by rw[←hR,←hM];rfl
 rw[hR];rw[hM]at hMw;have hS16:=qP (by decide) hh;have hwd: ∀j,j<8→wd (qB h) j=wd h j:=fun j hj=>Jq hh.1 hj
 have HM_:=hid hM;have HR2_:=hid hR2;have HL_:=hid hl;have HLO_:=hid hlo;have HMW_:=hid hMw;have HRW_:=hid hRw;have HH_:=hid hh;have HS16_:=hid hS16;have HWD_:=hid hwd;have HZ_:=hid hz;have HHB_:=hid hH;clear hM hR hR2 hl hlo hMw hRw hwd hS16 hz hH hh;go_enter Tryz.func130,Tryz.ntmps130
 go_wp2_with fail
 have hs3:(((w.alloc (.cells (qh .u64 (qB h)) 181)).alloc (.cells #[.int .u64 0,.int .u64 0,.int .u64 0,.int .u64 0,.int .u64 0,.int .u64 0,.int .u64 0,.int .u64 0,.int .u64 0,.int .u64 0,.int .u64 0,.int .u64 0,.int .u64 0,.int .u64 0,.int .u64 0,.int .u64 0] 181)).alloc (.cells (qh .u32 Z8) 160)).heap.size=b0+3:=by simp[hb0]
 have r0:(((w.alloc (.cells (qh .u64 (qB h)) 181)).alloc (.cells #[.int .u64 0,.int .u64 0,.int .u64 0,.int .u64 0,.int .u64 0,.int .u64 0,.int .u64 0,.int .u64 0,.int .u64 0,.int .u64 0,.int .u64 0,.int .u64 0,.int .u64 0,.int .u64 0,.int .u64 0,.int .u64 0] 181)).alloc (.cells (qh .u32 Z8) 160)).heap[b0]? =some (.cells (qh .u64 (qB h)) 181 (0,0)):=by
  rw[Bh _ _ _ (by simp[hb0];omega),Bh _ _ _ (by simp[hb0]),←hb0];exact Wn _ _
 have r1:(((w.alloc (.cells (qh .u64 (qB h)) 181)).alloc (.cells #[.int .u64 0,.int .u64 0,.int .u64 0,.int .u64 0,.int .u64 0,.int .u64 0,.int .u64 0,.int .u64 0,.int .u64 0,.int .u64 0,.int .u64 0,.int .u64 0,.int .u64 0,.int .u64 0,.int .u64 0,.int .u64 0] 181)).alloc (.cells (qh .u32 Z8) 160)).heap[b0+1]? =some (.cells #[.int .u64 0,.int .u64 0,.int .u64 0,.int .u64 0,.int .u64 0,.int .u64 0,.int .u64 0,.int .u64 0,.int .u64 0,.int .u64 0,.int .u64 0,.int .u64 0,.int .u64 0,.int .u64 0,.int .u64 0,.int .u64 0] 181 (0,0)):=by
  rw[Bh _ _ _ (by simp[hb0]),show b0+1=(w.alloc (.cells (qh .u64 (qB h)) 181)).heap.size by simp[hb0]];exact Wn _ _
 have r2:(((w.alloc (.cells (qh .u64 (qB h)) 181)).alloc (.cells #[.int .u64 0,.int .u64 0,.int .u64 0,.int .u64 0,.int .u64 0,.int .u64 0,.int .u64 0,.int .u64 0,.int .u64 0,.int .u64 0,.int .u64 0,.int .u64 0,.int .u64 0,.int .u64 0,.int .u64 0,.int .u64 0] 181)).alloc (.cells (qh .u32 Z8) 160)).heap[b0+1+1]? =some (.cells (qh .u32 (Qk h Z8 0)) 160 (0,0)):=by
  rw[show b0+1+1=((w.alloc (.cells (qh .u64 (qB h)) 181)).alloc (.cells #[.int .u64 0,.int .u64 0,.int .u64 0,.int .u64 0,.int .u64 0,.int .u64 0,.int .u64 0,.int .u64 0,.int .u64 0,.int .u64 0,.int .u64 0,.int .u64 0,.int .u64 0,.int .u64 0,.int .u64 0,.int .u64 0] 181)).heap.size by simp[hb0]];exact Wn _ _
 have hb3:Below b0 w (((w.alloc (.cells (qh .u64 (qB h)) 181)).alloc (.cells #[.int .u64 0,.int .u64 0,.int .u64 0,.int .u64 0,.int .u64 0,.int .u64 0,.int .u64 0,.int .u64 0,.int .u64 0,.int .u64 0,.int .u64 0,.int .u64 0,.int .u64 0,.int .u64 0,.int .u64 0,.int .u64 0] 181)).alloc (.cells (qh .u32 Z8) 160)):=by rw[←hb0];exact((Br.alloc Nl _).alloc (by simp) _).alloc (by simp;omega) _
 change Code.wp _ _ _ _ (((w.alloc (.cells (qh .u64 (qB h)) 181)).alloc (.cells #[.int .u64 0,.int .u64 0,.int .u64 0,.int .u64 0,.int .u64 0,.int .u64 0,.int .u64 0,.int .u64 0,.int .u64 0,.int .u64 0,.int .u64 0,.int .u64 0,.int .u64 0,.int .u64 0,.int .u64 0,.int .u64 0] 181)).alloc (.cells (qh .u32 Z8) 160))
 generalize (((w.alloc (.cells (qh .u64 (qB h)) 181)).alloc (.cells #[.int .u64 0,.int .u64 0,.int .u64 0,.int .u64 0,.int .u64 0,.int .u64 0,.int .u64 0,.int .u64 0,.int .u64 0,.int .u64 0,.int .u64 0,.int .u64 0,.int .u64 0,.int .u64 0,.int .u64 0,.int .u64 0] 181)).alloc (.cells (qh .u32 Z8) 160))=W3 at*;have R0:=hid r0;have R1:=hid r1;have R2:=hid r2;have HB3:=hid hb3;clear r0 r1 r2 hb3;go_loopw [21] (fun i wr=> ∃j:Nat,i= .int .i64 (j:Nat)∧j≤8∧wr.heap[b0+1+1]? =some (.cells (qh .u32 (Qk h Z8 j)) 160 (0,0))∧But (b0+1+1) W3 wr) (fun i _=>8 - (intOf i).toNat)
 case atStart=>exact⟨0,rfl,by omega,R2.out,But.refl _ _⟩
 case round=>
  obtain⟨j,rfl,hj,hrow,hb⟩:=hrel;have HROW:=hid hrow;have HB:=hid hb;have hwrs:b0+3≤wr.heap.size:=by have:=hb.size;omega
  by_cases hlt:j<8
  case pos=>
   have c0:wr.cell? ⟨b0,j,none⟩=some (.int .u64 (wd h j)):=by
    rw[qa ((hb.block b0 (by omega) (by omega)).trans R0.out) j,yy (by rw[HS16_.out.1];omega),HWD_.out j hlt]
   have hfl:(Qk h Z8 j).length=8:=yo (by rw[HH_.out.1];omega) (by show j≤8;omega);have c1:wr.cell? ⟨b0+1+1,j,none⟩=some (.int .u32 (wd (Qk h Z8 j) j)):=by rw[qa hrow j,yy (by omega)]
   have f1:=frozen_of_row wr (b0+1+1) j _ _ hrow;have hst:=heap_setCell_same wr (b0+1+1) j _ _ (.int .u32 (wd h j)) hrow;rw[qR,YA (by rw[HH_.out.1];omega) (by show j<8;omega)]at hst;have hbd:=Q3 HH_.out hlt;have hcv:IntKind.u32.wrap (wd h j)=wd h j:=by rw[IntKind.wrap_u32];exact Int.emod_eq_of_lt hbd.1 hbd.2
   have HST:=hid hst;have hjj:(j:Int)<8:=by omega
   generalize wd (Qk h Z8 j) j=zo at c1;generalize wd h j=zj at*;obtain⟨hbd1,hbd2⟩:=hbd;clear hst hfl hrow hb;go_wp2
   exact⟨⟨j+1,rfl,by omega,HST.out,HB.out.set _ _⟩,by simp[intOf];omega⟩
  obtain rfl:j=8:=by omega
  rw[show Qk h Z8 8=h by unfold Qk;rw[List.take_of_length_le (by rw[HH_.out.1];omega)];simp[Z8]]at HROW;have hh8:=HHB_.out.mono_below' (HB3.out.trans (hb.below (by omega) (by omega))) (by omega);have HH8:=hid hh8;clear hrow hb hh8 hj hlt;go_wp2_with fail
  refine(qal bs v _ HH8.out HZ_.out HL_.out).mono ?_;rintro e w1 ⟨rfl,hb1⟩;rw[HM_.out];have hs1:=hb1.size;have k0:=qe ((HB.out.block b0 (by omega) (by omega)).trans R0.out) hb1;have k1:=qe ((HB.out.block (b0+1) (by omega) (by omega)).trans R1.out) hb1;have k2:=qe HROW.out hb1;have hbw:Below b0 w w1:=(HB3.out.trans (HB.out.below (by omega) (by omega))).trans (hb1.mono (by omega));have K0:=hid k0;have K1:=hid k1;have K2:=hid k2;have HBW:=hid hbw;clear k0 k1 k2 hbw hb1 HB HROW R0 R1 R2 HB3 HH8;go_upto_region 20 with((with_reducible show wpList _ _ _ (Oper.mk none (Op.store 198 _ _) _ _ _ _::_) _ _);refine wpList_store_row rfl 198 _ _ rfl w1.heap.size (qh .u32 M) rfl rfl 198 _ (Wn _ _) (by rw[qd,HMW_.out.1];kernel_rfl) (by rw[qd,HMW_.out.1];rfl) qv ?_)
  refine qj ?_;intro W hW;obtain⟨bv,hbv⟩:=Ex w1.heap.size;have g0:W.heap[b0]? =some (.cells (qh .u64 (qB h)) 181 (0,0)):=by rw[hW];exact(setRow_other (w1.alloc _) _ _ _ (by omega)).trans ((Bh _ _ _ (by omega)).trans K0.out)
  have g1:W.heap[b0+1]? =some (.cells #[.int .u64 0,.int .u64 0,.int .u64 0,.int .u64 0,.int .u64 0,.int .u64 0,.int .u64 0,.int .u64 0,.int .u64 0,.int .u64 0,.int .u64 0,.int .u64 0,.int .u64 0,.int .u64 0,.int .u64 0,.int .u64 0] 181 (0,0)):=by rw[hW];exact(setRow_other (w1.alloc _) _ _ _ (by omega)).trans ((Bh _ _ _ (by omega)).trans K1.out)
  have g2:W.heap[b0+1+1]? =some (.cells (qh .u32 h) 160 (0,0)):=by rw[hW];exact(setRow_other (w1.alloc _) _ _ _ (by omega)).trans ((Bh _ _ _ (by omega)).trans K2.out)
  have g3:W.heap[bv]? =some (.cells (qh .u32 M) 198 (0,0)):=by rw[hW,←hbv];exact setRow_heap _ _ _ _ _ _ (Wn _ _)
  have hB2:Below b0 w W:=by rw[hW];exact below_setRow (HBW.out.alloc (by omega) _) (by omega) _
  rw[hbv];have hbvb:b0+3≤bv:=by omega
  clear hW hbv K0 K1 K2 HBW hs1 hwrs;go_wp2_with (first|((with_reducible show wpList _ _ _ (Oper.mk (some 73) _ _ _ _ _::_) _ _);refine wpList_load_row rfl 160 _ rfl (b0+1+1) rfl _ _ _ _ g2 Tryz.underlying160 rfl (by rw[qd,HH_.out.1];kernel_rfl) ?_)|((with_reducible show wpList _ _ _ (Oper.mk (some 74) _ _ _ _ _::_) _ _);refine wpList_load_row rfl 198 _ rfl bv rfl _ _ _ _ g3 Tryz.underlying198 rfl (by rw[qd,HMW_.out.1];kernel_rfl) ?_))
  refine(qgm h M HH_.out HMW_.out (lo:Nat) (by omega) (by have:=HLO_.out;omega) last node _).mono ?_;rintro e w2 ⟨rfl,hb2⟩;rw[HR2_.out];have hs2:=hb2.size;have hWs:=(Ai g3).1;have j0:=qe g0 hb2;have j1:=qe g1 hb2;have j2:=qe g2 hb2;have hB3:Below b0 w w2:=hB2.trans (hb2.mono (by omega));clear g0 g1 g2 g3 hB2 hb2;go_upto_region 21 with((with_reducible show wpList _ _ _ (Oper.mk none (Op.store 160 _ _) _ _ _ _::_) _ _);refine wpList_store_row rfl 160 _ _ rfl (b0+1+1) (qh .u32 R) rfl rfl 160 _ j2 (by rw[qd,HRW_.out.1];kernel_rfl) (by rw[qd,qd,HRW_.out.1,HH_.out.1]) qv ?_)
  refine qj ?_;intro W7 hW7;have m0:W7.heap[b0]? =some (.cells (qh .u64 (Qk R (qB h) 0)) 181 (0,0)):=by rw[hW7];exact(setRow_other w2 _ _ _ (by omega)).trans j0
  have m1:W7.heap[b0+1]? =some (.cells #[.int .u64 0,.int .u64 0,.int .u64 0,.int .u64 0,.int .u64 0,.int .u64 0,.int .u64 0,.int .u64 0,.int .u64 0,.int .u64 0,.int .u64 0,.int .u64 0,.int .u64 0,.int .u64 0,.int .u64 0,.int .u64 0] 181 (0,0)):=by rw[hW7];exact(setRow_other w2 _ _ _ (by omega)).trans j1
  have m2:W7.heap[b0+1+1]? =some (.cells (qh .u32 R) 160 (0,0)):=by rw[hW7];exact setRow_heap _ _ _ _ _ _ j2
  have hB7:Below b0 w W7:=by rw[hW7];exact below_setRow hB3 (by omega) _
  have hs7:b0+3≤W7.heap.size:=by rw[hW7,setRow_size];omega
  have M0:=hid m0;have M1:=hid m1;have M2:=hid m2;have HB7:=hid hB7;clear hW7 m0 m1 m2 hB7 j0 j1 j2 hB3 hs2 hWs hbvb;go_wp2_with fail
  go_loopw [24] (fun i wr=> ∃j:Nat,i= .int .i64 (j:Nat)∧j≤8∧wr.heap[b0]? =some (.cells (qh .u64 (Qk R (qB h) j)) 181 (0,0))∧But b0 W7 wr) (fun i _=>8 - (intOf i).toNat)
  case atStart=>exact⟨0,rfl,by omega,M0.out,But.refl _ _⟩
  case round=>
   obtain⟨j,rfl,hj,hrow,hb⟩:=hrel;have HROW:=hid hrow;have HB:=hid hb;have hwrs:b0+3≤wr.heap.size:=by have:=hb.size;omega
   have h16:(qB h).length=16:=HS16_.out.1;by_cases hlt:j<8
   case pos=>
    have c0:wr.cell? ⟨b0+1+1,j,none⟩=some (.int .u32 (wd R j)):=by rw[qa ((hb.block (b0+1+1) (by omega) (by omega)).trans M2.out) j,yy (by rw[HRW_.out.1];omega)]
    have hfl:(Qk R (qB h) j).length=16:=by rw[yo (by rw[HRW_.out.1];omega) (by omega),h16]
    have c1:wr.cell? ⟨b0,j,none⟩=some (.int .u64 (wd (Qk R (qB h) j) j)):=by rw[qa hrow j,yy (by omega)]
    have f1:=frozen_of_row wr b0 j _ _ hrow;have hst:=heap_setCell_same wr b0 j _ _ (.int .u64 (wd R j)) hrow;rw[qR,YA (by rw[HRW_.out.1];omega) (by omega)]at hst;have hbd:=Q3 HRW_.out hlt;have hcv:IntKind.u64.wrap (wd R j)=wd R j:=u64_wrap_id _ hbd.1 (by have:=hbd.2;simp at this;omega);have HST:=hid hst;have hjj:(j:Int)<8:=by omega
    generalize wd (Qk R (qB h) j) j=zo at c1;generalize wd R j=zj at*;obtain⟨hbd1,hbd2⟩:=hbd;clear hst hfl hrow hb h16;go_wp2
    exact⟨⟨j+1,rfl,by omega,HST.out,HB.out.set _ _⟩,by simp[intOf];omega⟩
   obtain rfl:j=8:=by omega
   rw[jl HRW_.out.1 HH_.out.1]at hrow;have n1:=(hb.block (b0+1) (by omega) (by omega)).trans M1.out;have hb9:Below b0 w wr:=HB7.out.trans (hb.below Nl (by omega));have hR16:=qP (by decide) HRW_.out;clear hb h16 hj hlt HROW;go_wp2_with (first|((with_reducible show wpList _ _ _ (Oper.mk (some 89) _ _ _ _ _::_) _ _);refine wpList_load_row rfl 181 _ rfl b0 rfl _ _ _ _ hrow Tryz.underlying181 rfl (by rw[qd,hR16.1];kernel_rfl) ?_)|((with_reducible show wpList _ _ _ (Oper.mk none (Op.store 181 _ _) _ _ _ _::_) _ _);refine wpList_store_row rfl 181 _ _ rfl (b0+1) (qh .u64 (qB R)) rfl rfl 181 _ n1 (by rw[qd,hR16.1];kernel_rfl) (by rw[qd,hR16.1];rfl) qv ?_))
   exact Bp (results_cell_row rfl _ _ (b0+1) 181 _ _ _ rfl (setRow_heap _ _ _ _ _ _ n1) Tryz.underlying181 rfl (by rw[qd,hR16.1];kernel_rfl)) rfl ⟨rfl,by rw[hb0];exact below_setRow hb9 (by omega) _⟩
def rN (kd:Int)(v:Nat→Nat)(sa pe kv:Value)(la:Bool)(mv:Value)(cnt:Int):Array Value:= #[.int .i64 kd,.int .i64 (v 1:Nat),.int .i64 (v 2:Nat),.int .i64 (v 3:Nat),.int .i64 (v 4:Nat),.int .u32 (v 5:Nat),.int .u64 (v 6:Nat),.int .u32 (v 7:Nat),.int .i64 (v 8:Nat),.int .i64 (v 9:Nat),sa,pe,kv,.bool la,.int .u64 0,.int .u64 0,.int .u64 0,.int .u64 0,.int .u64 0,.int .u64 0,.int .u64 0,.int .u64 0,.int .u64 0,.int .u64 0,.int .u64 0,.int .u64 0,.int .u64 0,.int .u64 0,.int .u64 0,.int .u64 0,.bool false,.int .u64 0,.int .u64 0,mv,.int .u64 cnt]
def yu (big:Bool)(w:World)(np:Nat)(v:Nat→Nat)(sa pe kv:Value)(la:Bool)(mv:Value)(cnt:Int):Prop:=w.heap[np]? =some (.cells (rN (kB big) v sa pe kv la mv cnt) 183 (0,0))
def qec (v:Nat→Nat)(sa pe:Value):Array Value:= #[.int .i64 (v 1:Nat),.int .i64 (v 2:Nat),.int .i64 (v 3:Nat),.int .i64 (v 4:Nat),.int .u32 (v 5:Nat),.int .u64 (v 6:Nat),.int .u32 (v 7:Nat),.int .i64 (v 8:Nat),.int .i64 (v 9:Nat),sa,pe]
theorem qeZ (kd:Int)(v:Nat→Nat)(sa pe kv:Value)(la:Bool)(mv:Value)(cnt:Int): ∀j,j<(qec v sa pe).size→(rN kd v sa pe kv la mv cnt)[1+j]? =(qec v sa pe)[j]? :=by
 intro j hj;have hj:j<11:=hj;rcases(show j=0∨j=1∨j=2∨j=3∨j=4∨j=5∨j=6∨j=7∨j=8∨j=9∨j=10 by omega)with rfl|rfl|rfl|rfl|rfl|rfl|rfl|rfl|rfl|rfl|rfl<;>rfl
theorem zJ {b zs:List Int}{p:Nat}(hb: ∀z∈b,0≤z∧z≤255)(hz: ∀z∈zs,0≤z∧z≤255): ∀z∈qU b p zs,0≤z∧z≤255:=by
 intro z h;unfold qU at h;rcases List.mem_append.1 h with h|h
 ·rcases List.mem_append.1 h with h|h
  ·exact hb z (List.mem_of_mem_take h)
  ·exact hz z h
 ·exact hb z (List.mem_of_mem_drop h)
theorem zW (big x0:Bool)(v:Nat→Nat): ∀k,∀z∈Qo big x0 v k,0≤z∧z≤255
 | 0,z,h=>by rw[List.eq_of_mem_replicate h];omega
 | k+1,z,h=>by
  rw[Qo]at h;split at h
  ·exact zW big x0 v k z h
  ·exact zJ (zW big x0 v k) (ZN _ _) z h
theorem z8 {big:Bool}{v:Nat→Nat}{z1 z2:List Int}(h1: ∀z∈z1,0≤z∧z≤255)(h2: ∀z∈z2,0≤z∧z≤255): ∀z∈QH big v z1 z2,0≤z∧z≤255:=
 zJ (zJ (zW _ _ _ _) h1) h2
theorem qaq (v:Nat→Nat)(z1 z2:List Int)(sa pe kv mv:Value)(la:Bool)(cnt:Int)(np:Nat)(w:World)(hN:yu true w np v sa pe kv la mv cnt)(hP:ParOk true v)(h1:Hold w sa z1)(h2:Hold w pe z2)(hl1:z1.length≤16)(hl2:z2.length≤16):
  Calls Tryz.prog 145 #[.pointer (some ⟨np,0,none⟩)] w fun e w'=>e= .returned (.agg (qh .u64 (qB (h0Z true (QH true v z1 z2)))))∧Below w.heap.size w w':=by
 obtain⟨b0,hb0⟩:=Ex w.heap.size;have hnp:np<b0:=by rw[←hb0];exact(Ai hN).1
 have hEN:=fun(W:World) (hb:Below b0 w W)=>zQ v z1 z2 sa pe W hP (h1.below (hb0▸hb)) (h2.below (hb0▸hb)) hl1 hl2
 have hbz: ∀z∈QH true v z1 z2,0≤z∧z≤255:=z8 h1.1 h2.1;have hbl:=QV (big:=true) (v:=v) hl1 hl2;generalize QH true v z1 z2=bs at*;obtain⟨H,hH0⟩:=Ex (h0Z true bs);have hHw:Words 64 8 H:=by rw[←hH0];exact QC true bs
 have hH1:Q4 .u64 IVb 8 bs=H:=by rw[←hH0];rfl
 rw[hH0];have hN':w.heap[np]? =some (.cells (rN 1 v sa pe kv la mv cnt) 183 (0,0)):=hN;have HEN_:=hid hEN;have HBZ_:=hid hbz;have HBL_:=hid hbl;have HH1_:=hid hH1;have HHW_:=hid hHw;have HNR:=hid hN';have c30:w.cell? ⟨np,30,none⟩=some (.bool false):=qa hN' 30;have c0n:w.cell? ⟨np,0,none⟩=some (.int .i64 1):=qa hN' 0;have hnpw:np<w.heap.size:=by omega
 clear hN hN' hEN hbz hbl hH0 hH1 hHw hP h1 h2;go_enter Tryz.func145,Tryz.ntmps145
 go_upto_region 4 with(fail)
 have hs2:((w.alloc (.cells #[.int .u64 0,.int .u64 0,.int .u64 0,.int .u64 0,.int .u64 0,.int .u64 0,.int .u64 0,.int .u64 0,.int .u64 0,.int .u64 0,.int .u64 0,.int .u64 0,.int .u64 0,.int .u64 0,.int .u64 0,.int .u64 0] 181)).alloc (.cells #[.int .u64 0,.int .u64 0,.int .u64 0,.int .u64 0,.int .u64 0,.int .u64 0,.int .u64 0,.int .u64 0,.int .u64 0,.int .u64 0,.int .u64 0,.int .u64 0,.int .u64 0,.int .u64 0,.int .u64 0,.int .u64 0] 181)).heap.size=b0+2:=by simp[hb0]
 have r0:((w.alloc (.cells #[.int .u64 0,.int .u64 0,.int .u64 0,.int .u64 0,.int .u64 0,.int .u64 0,.int .u64 0,.int .u64 0,.int .u64 0,.int .u64 0,.int .u64 0,.int .u64 0,.int .u64 0,.int .u64 0,.int .u64 0,.int .u64 0] 181)).alloc (.cells #[.int .u64 0,.int .u64 0,.int .u64 0,.int .u64 0,.int .u64 0,.int .u64 0,.int .u64 0,.int .u64 0,.int .u64 0,.int .u64 0,.int .u64 0,.int .u64 0,.int .u64 0,.int .u64 0,.int .u64 0,.int .u64 0] 181)).heap[b0]? =some (.cells #[.int .u64 0,.int .u64 0,.int .u64 0,.int .u64 0,.int .u64 0,.int .u64 0,.int .u64 0,.int .u64 0,.int .u64 0,.int .u64 0,.int .u64 0,.int .u64 0,.int .u64 0,.int .u64 0,.int .u64 0,.int .u64 0] 181 (0,0)):=by rw[Bh _ _ _ (by simp[hb0]),←hb0];exact Wn _ _
 have r1:((w.alloc (.cells #[.int .u64 0,.int .u64 0,.int .u64 0,.int .u64 0,.int .u64 0,.int .u64 0,.int .u64 0,.int .u64 0,.int .u64 0,.int .u64 0,.int .u64 0,.int .u64 0,.int .u64 0,.int .u64 0,.int .u64 0,.int .u64 0] 181)).alloc (.cells #[.int .u64 0,.int .u64 0,.int .u64 0,.int .u64 0,.int .u64 0,.int .u64 0,.int .u64 0,.int .u64 0,.int .u64 0,.int .u64 0,.int .u64 0,.int .u64 0,.int .u64 0,.int .u64 0,.int .u64 0,.int .u64 0] 181)).heap[b0+1]? =some (.cells (qh .u64 (Qk H (qB Z8) 0)) 181 (0,0)):=by rw[show b0+1=(w.alloc (.cells #[.int .u64 0,.int .u64 0,.int .u64 0,.int .u64 0,.int .u64 0,.int .u64 0,.int .u64 0,.int .u64 0,.int .u64 0,.int .u64 0,.int .u64 0,.int .u64 0,.int .u64 0,.int .u64 0,.int .u64 0,.int .u64 0] 181)).heap.size by simp[hb0]];exact Wn _ _
 have hb2:Below b0 w ((w.alloc (.cells #[.int .u64 0,.int .u64 0,.int .u64 0,.int .u64 0,.int .u64 0,.int .u64 0,.int .u64 0,.int .u64 0,.int .u64 0,.int .u64 0,.int .u64 0,.int .u64 0,.int .u64 0,.int .u64 0,.int .u64 0,.int .u64 0] 181)).alloc (.cells #[.int .u64 0,.int .u64 0,.int .u64 0,.int .u64 0,.int .u64 0,.int .u64 0,.int .u64 0,.int .u64 0,.int .u64 0,.int .u64 0,.int .u64 0,.int .u64 0,.int .u64 0,.int .u64 0,.int .u64 0,.int .u64 0] 181)):=by rw[←hb0];exact(Br.alloc Nl _).alloc (by simp) _
 generalize ((w.alloc (.cells #[.int .u64 0,.int .u64 0,.int .u64 0,.int .u64 0,.int .u64 0,.int .u64 0,.int .u64 0,.int .u64 0,.int .u64 0,.int .u64 0,.int .u64 0,.int .u64 0,.int .u64 0,.int .u64 0,.int .u64 0,.int .u64 0] 181)).alloc (.cells #[.int .u64 0,.int .u64 0,.int .u64 0,.int .u64 0,.int .u64 0,.int .u64 0,.int .u64 0,.int .u64 0,.int .u64 0,.int .u64 0,.int .u64 0,.int .u64 0,.int .u64 0,.int .u64 0,.int .u64 0,.int .u64 0] 181))=W2 at*;have hn2:W2.heap[np]? =some (.cells (rN 1 v sa pe kv la mv cnt) 183 (0,0)):=(hb2.block np hnp).trans HNR.out;have R0:=hid r0;have R1:=hid r1;have HB2:=hid hb2;have HN2:=hid hn2;clear r0 r1 hb2 hn2 c30 c0n HNR hnpw;refine qy (n:=14) (w0:=W2) (B:=W2.heap.size) [.v 21 (.pointer (some ⟨np,0,none⟩)),.v 22 (.pointer (some ⟨np,0,none⟩)),.v 23 (.pointer (some ⟨np,0,none⟩)),.v 24 (.int .i64 1),.v 25 (.pointer (some ⟨np,0,none⟩)),.v 26 (.pointer (some ⟨np,0,none⟩)),.v 27 (.pointer (some ⟨np,1,none⟩)),.v 28 (.agg (qec v sa pe)),.p 29 (fun u W=> ∃r,u= .tuple #[r,.int .i64 0]∧W.ownsRow W2.heap.size 5 1 r 64 (bs.map qo)),.p 20 (fun u W=> ∃r,u= .tuple #[r,.int .i64 0]∧W.ownsRow W2.heap.size 5 1 r 64 (bs.map qo)),.p 30 (fun u W=>W.ownsRow W2.heap.size 5 1 u 64 (bs.map qo)),.v 31 (.int .i64 0),.p 4 (fun u W=>W.ownsRow W2.heap.size 5 1 u 64 (bs.map qo)),.v 5 (.int .i64 0)] (by exact⟨(fun _ _ _ h hb=>by obtain⟨r,e,h⟩:=h;exact⟨r,e,qf h (fun g _ hg=>hb.block g hg)⟩),(fun _ _ _ h hb=>by obtain⟨r,e,h⟩:=h;exact⟨r,e,qf h (fun g _ hg=>hb.block g hg)⟩),(fun _ _ _ h hb=>qf h (fun g _ hg=>hb.block g hg)),(fun _ _ _ h hb=>qf h (fun g _ hg=>hb.block g hg)),trivial⟩) Br.drew Nl ?_ ?_
 ·repeat' (with_reducible first|exact qw|refine qu ?_ ?_)
  all_goals try
   intro A x W hA hW hBW hdep D K hK;have a0:=hA.2 0 (by decide);conv at a0=>rhs;whnf
   simp only[QN,Q0]at D;clear hdep hA;go_simp
   exact hK _ _ BR rfl
  ·intro A x W hA hW hBW hdep _ K hK;have g23:=gv hA hdep 2 23;clear hdep hA;have g0:=qe HN2.out hW;have c0:W.cell? ⟨np,0,none⟩=some (.int .i64 1):=qa g0 0;go_simp
   exact hK _ _ BR rfl
  ·intro A x W hA hW hBW hdep _ K hK;have g27:=gv hA hdep 6 27;clear hdep hA;have g0:=qe HN2.out hW;refine qZ 72 _ rfl np 1 g27 183 _ (qec v sa pe) (0,0) _ g0 Tryz.underlying72 rfl (by kernel_rfl) (qeZ _ _ _ _ _ _ _ _) (hK _ _ Br rfl)
  ·intro A x W hA hW hBW hdep _ K hK;have g24:=gv hA hdep 3 24;have g28:=gv hA hdep 7 28;clear hdep hA;go_simp
   refine(HEN_.out W (HB2.out.trans (hW.mono (by omega)))).mono ?_;rintro e w' ⟨⟨r,rfl,ho⟩,hb⟩;exact hK _ _ hb ⟨r,rfl,ownsRow_le ho hBW⟩
  ·intro A x W hA hW hBW hdep _ K hK;have g29:(fun u W=> ∃r,u= .tuple #[r,.int .i64 0]∧W.ownsRow W2.heap.size 5 1 r 64 (bs.map qo)) (x 29) W:=hdep ⟨8,.data⟩ (by simp) rfl _ rfl;have a29:A.tmps.getD 29 undef=x 29:=hA.1 29 (by decide);clear hdep hA;go_simp
   exact hK _ _ Br (a29▸g29)
  ·intro A x W hA hW hBW hdep _ K hK;have g20:(fun u W=> ∃r,u= .tuple #[r,.int .i64 0]∧W.ownsRow W2.heap.size 5 1 r 64 (bs.map qo)) (x 20) W:=hdep ⟨9,.data⟩ (by simp) rfl _ rfl;have a20:A.tmps.getD 20 undef=x 20:=hA.1 20 (by decide);clear hdep hA;obtain⟨r,er,hr⟩:=g20;rw[er]at a20;go_simp
   exact hK _ _ Br hr
  ·intro A x W hA hW hBW hdep _ K hK;have g20:(fun u W=> ∃r,u= .tuple #[r,.int .i64 0]∧W.ownsRow W2.heap.size 5 1 r 64 (bs.map qo)) (x 20) W:=hdep ⟨9,.data⟩ (by simp) rfl _ rfl;have a20:A.tmps.getD 20 undef=x 20:=hA.1 20 (by decide);clear hdep hA;obtain⟨r,er,hr⟩:=g20;rw[er]at a20;go_simp
   exact hK _ _ BR rfl
  ·intro A x W hA hW hBW hdep _ K hK;have g30:(fun u W=>W.ownsRow W2.heap.size 5 1 u 64 (bs.map qo)) (x 30) W:=hdep ⟨10,.data⟩ (by simp) rfl _ rfl;have a30:A.tmps.getD 30 undef=x 30:=hA.1 30 (by decide);clear hdep hA;go_simp
   exact hK _ _ Br (a30▸g30)
 intro x W hW hBW hall;obtain⟨e29,e20,e30,e4, -⟩:=hall;change (fun u W=> ∃r,u= .tuple #[r,.int .i64 0]∧W.ownsRow W2.heap.size 5 1 r 64 (bs.map qo)) (x 29) W at e29
 change (fun u W=> ∃r,u= .tuple #[r,.int .i64 0]∧W.ownsRow W2.heap.size 5 1 r 64 (bs.map qo)) (x 20) W at e20
 change (fun u W=>W.ownsRow W2.heap.size 5 1 u 64 (bs.map qo)) (x 30) W at e30
 change (fun u W=>W.ownsRow W2.heap.size 5 1 u 64 (bs.map qo)) (x 4) W at e4
 refine qt ?_;simp only[Qw,Act.put,Ls];have hh4:=QK e4;have hb5:Below b0 w W:=HB2.out.trans (hW.mono (by omega));have g0:=qe HN2.out hW;have r0:=qe R0.out hW;have r1:=qe R1.out hW;have c0n:W.cell? ⟨np,0,none⟩=some (.int .i64 1):=qa g0 0;have hnpw:np<W.heap.size:=(Ai g0).1;have hWs:b0+2≤W.heap.size:=by have:=hW.size;omega
 have R0_:=hid r0;have R1_:=hid r1;have HB5:=hid hb5;have HH4:=hid hh4;clear e29 e20 e30 e4 hh4 hb5 g0 r0 r1 hW hBW R0 R1 HB2 HN2 hs2;go_wp2_with fail
 refine(qcQ bs _ _ HH4.out HBZ_.out HBL_.out).mono ?_;rintro e w1 ⟨rfl,hb1⟩;rw[HH1_.out];have hs1:=hb1.size;have k0:=qe R0_.out hb1;have k1:=qe R1_.out hb1;have hbw:Below b0 w w1:=HB5.out.trans (hb1.mono (by omega));have K0:=hid k0;have K1:=hid k1;have HBW:=hid hbw;clear k0 k1 hbw hb1 R0_ R1_ HB5 HH4 c0n hnpw;go_upto_region 7 with((with_reducible show wpList _ _ _ (Oper.mk none (Op.store 150 _ _) _ _ _ _::_) _ _);refine wpList_store_row rfl 150 _ _ rfl w1.heap.size (qh .u64 H) rfl rfl 150 _ (Wn _ _) (by rw[qd,HHW_.out.1];kernel_rfl) (by rw[qd,HHW_.out.1];rfl) qv ?_)
 refine qj ?_;intro W7 hW7;obtain⟨bv,hbv⟩:=Ex w1.heap.size;have m0:W7.heap[b0]? =some (.cells #[.int .u64 0,.int .u64 0,.int .u64 0,.int .u64 0,.int .u64 0,.int .u64 0,.int .u64 0,.int .u64 0,.int .u64 0,.int .u64 0,.int .u64 0,.int .u64 0,.int .u64 0,.int .u64 0,.int .u64 0,.int .u64 0] 181 (0,0)):=by rw[hW7];exact(setRow_other (w1.alloc _) _ _ _ (by omega)).trans ((Bh _ _ _ (by omega)).trans K0.out)
 have m1:W7.heap[b0+1]? =some (.cells (qh .u64 (Qk H (qB Z8) 0)) 181 (0,0)):=by rw[hW7];exact(setRow_other (w1.alloc _) _ _ _ (by omega)).trans ((Bh _ _ _ (by omega)).trans K1.out)
 have m2:W7.heap[bv]? =some (.cells (qh .u64 H) 150 (0,0)):=by rw[hW7,←hbv];exact setRow_heap _ _ _ _ _ _ (Wn _ _)
 have hB7:Below b0 w W7:=by rw[hW7];exact below_setRow (HBW.out.alloc (by omega) _) (by omega) _
 have hbs7:bv<W7.heap.size:=(Ai m2).1;have hbvb:b0+2≤bv:=by omega
 rw[hbv];have M0:=hid m0;have M1:=hid m1;have M2:=hid m2;have HB7:=hid hB7;clear hW7 hbv m0 m1 m2 hB7 K0 K1 HBW hs1 hWs;go_wp2_with fail
 go_loopw [8] (fun i wr=> ∃j:Nat,i= .int .i64 (j:Nat)∧j≤8∧wr.heap[b0+1]? =some (.cells (qh .u64 (Qk H (qB Z8) j)) 181 (0,0))∧But (b0+1) W7 wr) (fun i _=>8 - (intOf i).toNat)
 case atStart=>exact⟨0,rfl,by omega,M1.out,But.refl _ _⟩
 case round=>
  obtain⟨j,rfl,hj,hrow,hb⟩:=hrel;have HROW:=hid hrow;have HB:=hid hb;have hwrs:bv<wr.heap.size:=by have:=hb.size;omega
  have h16:(qB Z8).length=16:=rfl;by_cases hlt:j<8
  case pos=>
   have c0:wr.cell? ⟨bv,j,none⟩=some (.int .u64 (wd H j)):=by rw[qa ((hb.block bv (by omega) (by omega)).trans M2.out) j,yy (by rw[HHW_.out.1];omega)]
   have hfl:(Qk H (qB Z8) j).length=16:=by rw[yo (by rw[HHW_.out.1];omega) (by omega),h16]
   have c1:wr.cell? ⟨b0+1,j,none⟩=some (.int .u64 (wd (Qk H (qB Z8) j) j)):=by rw[qa hrow j,yy (by omega)]
   have f1:=frozen_of_row wr (b0+1) j _ _ hrow;have hst:=heap_setCell_same wr (b0+1) j _ _ (.int .u64 (wd H j)) hrow;rw[qR,YA (by rw[HHW_.out.1];omega) (by omega)]at hst;have hbd:=Q3 HHW_.out hlt;have HST:=hid hst;have hjj:(j:Int)<8:=by omega
   generalize wd (Qk H (qB Z8) j) j=zo at c1;generalize wd H j=zj at*;obtain⟨hbd1,hbd2⟩:=hbd;clear hst hfl hrow hb h16;go_wp2
   exact⟨⟨j+1,rfl,by omega,HST.out,HB.out.set _ _⟩,by simp[intOf];omega⟩
  obtain rfl:j=8:=by omega
  rw[jl HHW_.out.1 rfl]at hrow;have n1:=(hb.block b0 (by omega) (by omega)).trans M0.out;have hb9:Below b0 w wr:=HB7.out.trans (hb.below (by omega) (by omega));have hR16:=qP (by decide) HHW_.out;have hwr1:b0+1<wr.heap.size:=by omega
  clear hb h16 hj hlt HROW;go_wp2_with (first|((with_reducible show wpList _ _ _ (Oper.mk (some 51) _ _ _ _ _::_) _ _);refine wpList_load_row rfl 181 _ rfl (b0+1) rfl _ _ _ _ hrow Tryz.underlying181 rfl (by rw[qd,hR16.1];kernel_rfl) ?_)|((with_reducible show wpList _ _ _ (Oper.mk none (Op.store 181 _ _) _ _ _ _::_) _ _);refine wpList_store_row rfl 181 _ _ rfl b0 (qh .u64 (qB H)) rfl rfl 181 _ n1 (by rw[qd,hR16.1];kernel_rfl) (by rw[qd,hR16.1];rfl) qv ?_))
  exact Bp (results_cell_row rfl _ _ b0 181 _ _ _ rfl (setRow_heap _ _ _ _ _ _ n1) Tryz.underlying181 rfl (by rw[qd,hR16.1];kernel_rfl)) rfl ⟨rfl,by rw[hb0];exact below_setRow hb9 Nl _⟩
theorem JM (v:Nat→Nat)(z1 z2:List Int)(sa pe kv mv:Value)(la:Bool)(cnt:Int)(np:Nat)(w:World)(hN:yu false w np v sa pe kv la mv cnt)(hP:ParOk false v)(h1:Hold w sa z1)(h2:Hold w pe z2)(hl1:z1.length≤8)(hl2:z2.length≤8):
  Calls Tryz.prog 145 #[.pointer (some ⟨np,0,none⟩)] w fun e w'=>e= .returned (.agg (qh .u64 (qB (h0Z false (QH false v z1 z2)))))∧Below w.heap.size w w':=by
 obtain⟨b0,hb0⟩:=Ex w.heap.size;have hnp:np<b0:=by rw[←hb0];exact(Ai hN).1
 have hEN:=fun(W:World) (hb:Below b0 w W)=>zt v z1 z2 sa pe W hP (h1.below (hb0▸hb)) (h2.below (hb0▸hb)) hl1 hl2
 have hbz: ∀z∈QH false v z1 z2,0≤z∧z≤255:=z8 h1.1 h2.1;have hbl:=QV (big:=false) (v:=v) hl1 hl2;generalize QH false v z1 z2=bs at*;obtain⟨H,hH0⟩:=Ex (h0Z false bs);have hHw:Words 32 8 H:=by rw[←hH0];exact QC false bs
 have hH1:Q4 .u32 IVs 4 bs=H:=by rw[←hH0];rfl
 rw[hH0];have hN':w.heap[np]? =some (.cells (rN 2 v sa pe kv la mv cnt) 183 (0,0)):=hN;have HEN_:=hid hEN;have HBZ_:=hid hbz;have HBL_:=hid hbl;have HH1_:=hid hH1;have HHW_:=hid hHw;have HNR:=hid hN';have c30:w.cell? ⟨np,30,none⟩=some (.bool false):=qa hN' 30;have c0n:w.cell? ⟨np,0,none⟩=some (.int .i64 2):=qa hN' 0;have hnpw:np<w.heap.size:=by omega
 clear hN hN' hEN hbz hbl hH0 hH1 hHw hP h1 h2;go_enter Tryz.func145,Tryz.ntmps145
 go_upto_region 4 with(fail)
 have hs2:((w.alloc (.cells #[.int .u64 0,.int .u64 0,.int .u64 0,.int .u64 0,.int .u64 0,.int .u64 0,.int .u64 0,.int .u64 0,.int .u64 0,.int .u64 0,.int .u64 0,.int .u64 0,.int .u64 0,.int .u64 0,.int .u64 0,.int .u64 0] 181)).alloc (.cells #[.int .u64 0,.int .u64 0,.int .u64 0,.int .u64 0,.int .u64 0,.int .u64 0,.int .u64 0,.int .u64 0,.int .u64 0,.int .u64 0,.int .u64 0,.int .u64 0,.int .u64 0,.int .u64 0,.int .u64 0,.int .u64 0] 181)).heap.size=b0+2:=by simp[hb0]
 have r0:((w.alloc (.cells #[.int .u64 0,.int .u64 0,.int .u64 0,.int .u64 0,.int .u64 0,.int .u64 0,.int .u64 0,.int .u64 0,.int .u64 0,.int .u64 0,.int .u64 0,.int .u64 0,.int .u64 0,.int .u64 0,.int .u64 0,.int .u64 0] 181)).alloc (.cells #[.int .u64 0,.int .u64 0,.int .u64 0,.int .u64 0,.int .u64 0,.int .u64 0,.int .u64 0,.int .u64 0,.int .u64 0,.int .u64 0,.int .u64 0,.int .u64 0,.int .u64 0,.int .u64 0,.int .u64 0,.int .u64 0] 181)).heap[b0]? =some (.cells #[.int .u64 0,.int .u64 0,.int .u64 0,.int .u64 0,.int .u64 0,.int .u64 0,.int .u64 0,.int .u64 0,.int .u64 0,.int .u64 0,.int .u64 0,.int .u64 0,.int .u64 0,.int .u64 0,.int .u64 0,.int .u64 0] 181 (0,0)):=by rw[Bh _ _ _ (by simp[hb0]),←hb0];exact Wn _ _
 have r1:((w.alloc (.cells #[.int .u64 0,.int .u64 0,.int .u64 0,.int .u64 0,.int .u64 0,.int .u64 0,.int .u64 0,.int .u64 0,.int .u64 0,.int .u64 0,.int .u64 0,.int .u64 0,.int .u64 0,.int .u64 0,.int .u64 0,.int .u64 0] 181)).alloc (.cells #[.int .u64 0,.int .u64 0,.int .u64 0,.int .u64 0,.int .u64 0,.int .u64 0,.int .u64 0,.int .u64 0,.int .u64 0,.int .u64 0,.int .u64 0,.int .u64 0,.int .u64 0,.int .u64 0,.int .u64 0,.int .u64 0] 181)).heap[b0+1]? =some (.cells (qh .u64 (Qk H (qB Z8) 0)) 181 (0,0)):=by rw[show b0+1=(w.alloc (.cells #[.int .u64 0,.int .u64 0,.int .u64 0,.int .u64 0,.int .u64 0,.int .u64 0,.int .u64 0,.int .u64 0,.int .u64 0,.int .u64 0,.int .u64 0,.int .u64 0,.int .u64 0,.int .u64 0,.int .u64 0,.int .u64 0] 181)).heap.size by simp[hb0]];exact Wn _ _
 have hb2:Below b0 w ((w.alloc (.cells #[.int .u64 0,.int .u64 0,.int .u64 0,.int .u64 0,.int .u64 0,.int .u64 0,.int .u64 0,.int .u64 0,.int .u64 0,.int .u64 0,.int .u64 0,.int .u64 0,.int .u64 0,.int .u64 0,.int .u64 0,.int .u64 0] 181)).alloc (.cells #[.int .u64 0,.int .u64 0,.int .u64 0,.int .u64 0,.int .u64 0,.int .u64 0,.int .u64 0,.int .u64 0,.int .u64 0,.int .u64 0,.int .u64 0,.int .u64 0,.int .u64 0,.int .u64 0,.int .u64 0,.int .u64 0] 181)):=by rw[←hb0];exact(Br.alloc Nl _).alloc (by simp) _
 generalize ((w.alloc (.cells #[.int .u64 0,.int .u64 0,.int .u64 0,.int .u64 0,.int .u64 0,.int .u64 0,.int .u64 0,.int .u64 0,.int .u64 0,.int .u64 0,.int .u64 0,.int .u64 0,.int .u64 0,.int .u64 0,.int .u64 0,.int .u64 0] 181)).alloc (.cells #[.int .u64 0,.int .u64 0,.int .u64 0,.int .u64 0,.int .u64 0,.int .u64 0,.int .u64 0,.int .u64 0,.int .u64 0,.int .u64 0,.int .u64 0,.int .u64 0,.int .u64 0,.int .u64 0,.int .u64 0,.int .u64 0] 181))=W2 at*;have hn2:W2.heap[np]? =some (.cells (rN 2 v sa pe kv la mv cnt) 183 (0,0)):=(hb2.block np hnp).trans HNR.out;have R0:=hid r0;have R1:=hid r1;have HB2:=hid hb2;have HN2:=hid hn2;clear r0 r1 hb2 hn2 c30 c0n HNR hnpw;refine qy (n:=14) (w0:=W2) (B:=W2.heap.size) [.v 21 (.pointer (some ⟨np,0,none⟩)),.v 22 (.pointer (some ⟨np,0,none⟩)),.v 23 (.pointer (some ⟨np,0,none⟩)),.v 24 (.int .i64 2),.v 25 (.pointer (some ⟨np,0,none⟩)),.v 26 (.pointer (some ⟨np,0,none⟩)),.v 27 (.pointer (some ⟨np,1,none⟩)),.v 28 (.agg (qec v sa pe)),.p 29 (fun u W=> ∃r,u= .tuple #[r,.int .i64 0]∧W.ownsRow W2.heap.size 5 1 r 32 (bs.map qo)),.p 20 (fun u W=> ∃r,u= .tuple #[r,.int .i64 0]∧W.ownsRow W2.heap.size 5 1 r 32 (bs.map qo)),.p 30 (fun u W=>W.ownsRow W2.heap.size 5 1 u 32 (bs.map qo)),.v 31 (.int .i64 0),.p 4 (fun u W=>W.ownsRow W2.heap.size 5 1 u 32 (bs.map qo)),.v 5 (.int .i64 0)] (by exact⟨(fun _ _ _ h hb=>by obtain⟨r,e,h⟩:=h;exact⟨r,e,qf h (fun g _ hg=>hb.block g hg)⟩),(fun _ _ _ h hb=>by obtain⟨r,e,h⟩:=h;exact⟨r,e,qf h (fun g _ hg=>hb.block g hg)⟩),(fun _ _ _ h hb=>qf h (fun g _ hg=>hb.block g hg)),(fun _ _ _ h hb=>qf h (fun g _ hg=>hb.block g hg)),trivial⟩) Br.drew Nl ?_ ?_
 ·repeat' (with_reducible first|exact qw|refine qu ?_ ?_)
  all_goals try
   intro A x W hA hW hBW hdep D K hK;have a0:=hA.2 0 (by decide);conv at a0=>rhs;whnf
   simp only[QN,Q0]at D;clear hdep hA;go_simp
   exact hK _ _ BR rfl
  ·intro A x W hA hW hBW hdep _ K hK;have g23:=gv hA hdep 2 23;clear hdep hA;have g0:=qe HN2.out hW;have c0:W.cell? ⟨np,0,none⟩=some (.int .i64 2):=qa g0 0;go_simp
   exact hK _ _ BR rfl
  ·intro A x W hA hW hBW hdep _ K hK;have g27:=gv hA hdep 6 27;clear hdep hA;have g0:=qe HN2.out hW;refine qZ 72 _ rfl np 1 g27 183 _ (qec v sa pe) (0,0) _ g0 Tryz.underlying72 rfl (by kernel_rfl) (qeZ _ _ _ _ _ _ _ _) (hK _ _ Br rfl)
  ·intro A x W hA hW hBW hdep _ K hK;have g24:=gv hA hdep 3 24;have g28:=gv hA hdep 7 28;clear hdep hA;go_simp
   refine(HEN_.out W (HB2.out.trans (hW.mono (by omega)))).mono ?_;rintro e w' ⟨⟨r,rfl,ho⟩,hb⟩;exact hK _ _ hb ⟨r,rfl,ownsRow_le ho hBW⟩
  ·intro A x W hA hW hBW hdep _ K hK;have g29:(fun u W=> ∃r,u= .tuple #[r,.int .i64 0]∧W.ownsRow W2.heap.size 5 1 r 32 (bs.map qo)) (x 29) W:=hdep ⟨8,.data⟩ (by simp) rfl _ rfl;have a29:A.tmps.getD 29 undef=x 29:=hA.1 29 (by decide);clear hdep hA;go_simp
   exact hK _ _ Br (a29▸g29)
  ·intro A x W hA hW hBW hdep _ K hK;have g20:(fun u W=> ∃r,u= .tuple #[r,.int .i64 0]∧W.ownsRow W2.heap.size 5 1 r 32 (bs.map qo)) (x 20) W:=hdep ⟨9,.data⟩ (by simp) rfl _ rfl;have a20:A.tmps.getD 20 undef=x 20:=hA.1 20 (by decide);clear hdep hA;obtain⟨r,er,hr⟩:=g20;rw[er]at a20;go_simp
   exact hK _ _ Br hr
  ·intro A x W hA hW hBW hdep _ K hK;have g20:(fun u W=> ∃r,u= .tuple #[r,.int .i64 0]∧W.ownsRow W2.heap.size 5 1 r 32 (bs.map qo)) (x 20) W:=hdep ⟨9,.data⟩ (by simp) rfl _ rfl;have a20:A.tmps.getD 20 undef=x 20:=hA.1 20 (by decide);clear hdep hA;obtain⟨r,er,hr⟩:=g20;rw[er]at a20;go_simp
   exact hK _ _ BR rfl
  ·intro A x W hA hW hBW hdep _ K hK;have g30:(fun u W=>W.ownsRow W2.heap.size 5 1 u 32 (bs.map qo)) (x 30) W:=hdep ⟨10,.data⟩ (by simp) rfl _ rfl;have a30:A.tmps.getD 30 undef=x 30:=hA.1 30 (by decide);clear hdep hA;go_simp
   exact hK _ _ Br (a30▸g30)
 intro x W hW hBW hall;obtain⟨e29,e20,e30,e4, -⟩:=hall;change (fun u W=> ∃r,u= .tuple #[r,.int .i64 0]∧W.ownsRow W2.heap.size 5 1 r 32 (bs.map qo)) (x 29) W at e29
 change (fun u W=> ∃r,u= .tuple #[r,.int .i64 0]∧W.ownsRow W2.heap.size 5 1 r 32 (bs.map qo)) (x 20) W at e20
 change (fun u W=>W.ownsRow W2.heap.size 5 1 u 32 (bs.map qo)) (x 30) W at e30
 change (fun u W=>W.ownsRow W2.heap.size 5 1 u 32 (bs.map qo)) (x 4) W at e4
 refine qt ?_;simp only[Qw,Act.put,Ls];have hh4:=QK e4;have hb5:Below b0 w W:=HB2.out.trans (hW.mono (by omega));have g0:=qe HN2.out hW;have r0:=qe R0.out hW;have r1:=qe R1.out hW;have c0n:W.cell? ⟨np,0,none⟩=some (.int .i64 2):=qa g0 0;have hnpw:np<W.heap.size:=(Ai g0).1;have hWs:b0+2≤W.heap.size:=by have:=hW.size;omega
 have R0_:=hid r0;have R1_:=hid r1;have HB5:=hid hb5;have HH4:=hid hh4;clear e29 e20 e30 e4 hh4 hb5 g0 r0 r1 hW hBW R0 R1 HB2 HN2 hs2;go_wp2_with fail
 refine(qcR bs _ _ HH4.out HBZ_.out HBL_.out).mono ?_;rintro e w1 ⟨rfl,hb1⟩;rw[HH1_.out];have hs1:=hb1.size;have k0:=qe R0_.out hb1;have k1:=qe R1_.out hb1;have hbw:Below b0 w w1:=HB5.out.trans (hb1.mono (by omega));have K0:=hid k0;have K1:=hid k1;have HBW:=hid hbw;clear k0 k1 hbw hb1 R0_ R1_ HB5 HH4 c0n hnpw;go_upto_region 13 with((with_reducible show wpList _ _ _ (Oper.mk none (Op.store 160 _ _) _ _ _ _::_) _ _);refine wpList_store_row rfl 160 _ _ rfl w1.heap.size (qh .u32 H) rfl rfl 160 _ (Wn _ _) (by rw[qd,HHW_.out.1];kernel_rfl) (by rw[qd,HHW_.out.1];rfl) qv ?_)
 refine qj ?_;intro W7 hW7;obtain⟨bv,hbv⟩:=Ex w1.heap.size;have m0:W7.heap[b0]? =some (.cells #[.int .u64 0,.int .u64 0,.int .u64 0,.int .u64 0,.int .u64 0,.int .u64 0,.int .u64 0,.int .u64 0,.int .u64 0,.int .u64 0,.int .u64 0,.int .u64 0,.int .u64 0,.int .u64 0,.int .u64 0,.int .u64 0] 181 (0,0)):=by rw[hW7];exact(setRow_other (w1.alloc _) _ _ _ (by omega)).trans ((Bh _ _ _ (by omega)).trans K0.out)
 have m1:W7.heap[b0+1]? =some (.cells (qh .u64 (Qk H (qB Z8) 0)) 181 (0,0)):=by rw[hW7];exact(setRow_other (w1.alloc _) _ _ _ (by omega)).trans ((Bh _ _ _ (by omega)).trans K1.out)
 have m2:W7.heap[bv]? =some (.cells (qh .u32 H) 160 (0,0)):=by rw[hW7,←hbv];exact setRow_heap _ _ _ _ _ _ (Wn _ _)
 have hB7:Below b0 w W7:=by rw[hW7];exact below_setRow (HBW.out.alloc (by omega) _) (by omega) _
 have hbs7:bv<W7.heap.size:=(Ai m2).1;have hbvb:b0+2≤bv:=by omega
 rw[hbv];have M0:=hid m0;have M1:=hid m1;have M2:=hid m2;have HB7:=hid hB7;clear hW7 hbv m0 m1 m2 hB7 K0 K1 HBW hs1 hWs;go_wp2_with fail
 go_loopw [11] (fun i wr=> ∃j:Nat,i= .int .i64 (j:Nat)∧j≤8∧wr.heap[b0+1]? =some (.cells (qh .u64 (Qk H (qB Z8) j)) 181 (0,0))∧But (b0+1) W7 wr) (fun i _=>8 - (intOf i).toNat)
 case atStart=>exact⟨0,rfl,by omega,M1.out,But.refl _ _⟩
 case round=>
  obtain⟨j,rfl,hj,hrow,hb⟩:=hrel;have HROW:=hid hrow;have HB:=hid hb;have hwrs:bv<wr.heap.size:=by have:=hb.size;omega
  have h16:(qB Z8).length=16:=rfl;by_cases hlt:j<8
  case pos=>
   have c0:wr.cell? ⟨bv,j,none⟩=some (.int .u32 (wd H j)):=by rw[qa ((hb.block bv (by omega) (by omega)).trans M2.out) j,yy (by rw[HHW_.out.1];omega)]
   have hfl:(Qk H (qB Z8) j).length=16:=by rw[yo (by rw[HHW_.out.1];omega) (by omega),h16]
   have c1:wr.cell? ⟨b0+1,j,none⟩=some (.int .u64 (wd (Qk H (qB Z8) j) j)):=by rw[qa hrow j,yy (by omega)]
   have f1:=frozen_of_row wr (b0+1) j _ _ hrow;have hst:=heap_setCell_same wr (b0+1) j _ _ (.int .u64 (wd H j)) hrow;rw[qR,YA (by rw[HHW_.out.1];omega) (by omega)]at hst;have hbd:=Q3 HHW_.out hlt;have hcv:IntKind.u64.wrap (wd H j)=wd H j:=u64_wrap_id _ hbd.1 (by have:=hbd.2;simp at this;omega);have HST:=hid hst;have hjj:(j:Int)<8:=by omega
   generalize wd (Qk H (qB Z8) j) j=zo at c1;generalize wd H j=zj at*;obtain⟨hbd1,hbd2⟩:=hbd;clear hst hfl hrow hb h16;go_wp2
   exact⟨⟨j+1,rfl,by omega,HST.out,HB.out.set _ _⟩,by simp[intOf];omega⟩
  obtain rfl:j=8:=by omega
  rw[jl HHW_.out.1 rfl]at hrow;have n1:=(hb.block b0 (by omega) (by omega)).trans M0.out;have hb9:Below b0 w wr:=HB7.out.trans (hb.below (by omega) (by omega));have hR16:=qP (by decide) HHW_.out;have hwr1:b0+1<wr.heap.size:=by omega
  clear hb h16 hj hlt HROW;go_wp2_with (first|((with_reducible show wpList _ _ _ (Oper.mk (some 67) _ _ _ _ _::_) _ _);refine wpList_load_row rfl 181 _ rfl (b0+1) rfl _ _ _ _ hrow Tryz.underlying181 rfl (by rw[qd,hR16.1];kernel_rfl) ?_)|((with_reducible show wpList _ _ _ (Oper.mk none (Op.store 181 _ _) _ _ _ _::_) _ _);refine wpList_store_row rfl 181 _ _ rfl b0 (qh .u64 (qB H)) rfl rfl 181 _ n1 (by rw[qd,hR16.1];kernel_rfl) (by rw[qd,hR16.1];rfl) qv ?_))
  exact Bp (results_cell_row rfl _ _ b0 181 _ _ _ rfl (setRow_heap _ _ _ _ _ _ n1) Tryz.underlying181 rfl (by rw[qd,hR16.1];kernel_rfl)) rfl ⟨rfl,by rw[hb0];exact below_setRow hb9 Nl _⟩
structure TreeOk (t:TreeV)(kz z1 z2:List Int)(w:World):Prop where
 v:t.validE=0
 l:0≤t.l∧t.l≤4294967295
 k:Hold w (.slice t.ka t.kl t.kc) kz
 s:Hold w (.slice t.sa t.sl t.sc) z1
 p:Hold w (.slice t.pa t.pl t.pc) z2
theorem TreeOk.below {t:TreeV}{kz z1 z2:List Int}{w w':World}(h:TreeOk t kz z1 z2 w)(hb:Below w.heap.size w w'):TreeOk t kz z1 z2 w':=⟨h.v,h.l,h.k.below hb,h.s.below hb,h.p.below hb⟩
theorem yO {w:World}{a:Option Addr}{n c:Nat}{zs:List Int}(h:Hold w (.slice a n c) zs):zs.length=n:=by
 obtain⟨a',c',e, -, -⟩:=h.slice;simp only[Value.slice.injEq]at e;exact e.2.1.symm
def TreeV.node (t:TreeV)(kz z1 z2:List Int)(row i:Nat)(la rt:Bool)(d:List Int):List Int:=jq t.big (t.blk z1 z2 row i) (zB row kz) la (t.outN rt) d
theorem Y1 (t:TreeV)(kz z1 z2:List Int)(row i:Nat)(la rt:Bool)(d:List Int): ∀a∈t.node kz z1 z2 row i la rt d,0≤a∧a≤255:=fun a ha=>qb4 _ _ _ _ a (List.mem_of_mem_take ha)
theorem qbr (big:Bool)(bs kz ds:List Int)(la:Bool)(o:Int)(bv kv dv:Value)(w:World)(hB:Hold w bv bs)(hK:Hold w kv kz)(hD:Hold w dv ds)(hdl:(ds.length:Int)≤140737488355200)(hok:okD big false bs)(hkb0:yZ bs kz=false)(ho:1≤o∧o≤(mB big:Nat)):
  Calls Tryz.prog 16 #[.agg (yw (kB big) bv kv la o dv)] w fun e w'=>qag big bs kz la o ds w e w':=by
 cases big
 ·exact qdr bs kz ds la o bv kv dv w hB hK hD hdl hok hkb0 ho
 ·exact qeD bs kz ds la o bv kv dv w hB hK hD hdl hok hkb0 ho
theorem TreeOk.okD {t:TreeV}{kz z1 z2:List Int}{w:World}(h:TreeOk t kz z1 z2 w){row at_:Nat}(hr:row≤255)(ha:at_<281474976710656):
  Go.Proofs.YtdndeffmlhaipaaGreatDoor.okD t.big false (t.blk z1 z2 row at_)∧yZ (t.blk z1 z2 row at_) (zB row kz)=false∧(∀z∈t.blk z1 z2 row at_,0≤z∧z≤255)∧ ∀rt:Bool,1≤t.outN rt∧t.outN rt≤(mB t.big:Nat):=by
 have hvf:=qq h.v;have hmb:=yU h.v;have e1:=yO h.s;have e2:=yO h.p;have e3:=yO h.k;obtain⟨h1,h2⟩:=qfW (z1:=z1) (z2:=z2) (Zd h.v h.l hr ha) (by omega) (by omega);refine⟨h1,?_,z8 h.s.1 h.p.1,fun rt=>?_⟩
 ·have h3:qm (t.blk z1 z2 row at_) 1=(t.kl:Int):=h2;unfold yZ zB;rw[h3];refine decide_eq_false ?_;split
  ·omega
  ·simp
 ·obtain⟨-,d1,d2,d3,d4, -⟩:=hvf
  cases rt
  ·show 1≤t.i∧t.i≤_;omega
  ·show 1≤t.d∧t.d≤_;omega
theorem qdH {t:TreeV}{kz z1 z2:List Int}{w:World}(h:TreeOk t kz z1 z2 w){row at_:Nat}(hr:row≤255)(ha:at_<281474976710656)(la rt:Bool)(ds:List Int)(dv bv kv:Value)(W:World)(b:Nat)
  (ho:W.ownsRow b 5 1 bv (mB t.big) ((t.blk z1 z2 row at_).map qo)) (hk:W.ownsRow b 5 1 kv (zB row kz).length ((zB row kz).map qo)) (hd:Hold W dv ds) (hl:ds.length≤1073741824):
  Calls Tryz.prog 16 #[.agg (yw t.k bv kv la (t.outN rt) dv)] W fun e w'=> ∃u,e= .returned (.tuple #[u,.int .i64 0])∧OwnB W.heap.size w' u (t.node kz z1 z2 row at_ la rt ds)∧Below W.heap.size W w':=by
 obtain⟨h1,h2,h3,h4⟩:=h.okD hr ha;have hkz: ∀z∈zB row kz,0≤z∧z≤255:=fun z hz=>by
  unfold zB at hz;split at hz
  ·exact h.k.1 z hz
  ·cases hz
 rw[←Yy h.v];refine(qbr t.big _ _ ds la _ bv kv dv W (Qd ho h3) (Qd hk hkz) hd (by omega) h1 h2 (h4 rt)).mono ?_;rintro e w' ⟨⟨u,rfl,hu⟩,hb⟩
 exact⟨u,rfl,⟨Y1 t kz z1 z2 row at_ la rt ds,hu⟩,hb⟩
def TreeV.rowZ (t:TreeV)(kz z1 z2:List Int)(row:Nat)(rt:Bool)(L:List (List Int))(m:Nat):List (List Int):=(List.range m).map fun i=>t.node kz z1 z2 row i (decide (i+1=L.length)) rt (qK L i)
theorem yz (t:TreeV)(kz z1 z2:List Int)(row:Nat)(rt:Bool)(L:List (List Int))(m:Nat):t.rowZ kz z1 z2 row rt L (m+1)=t.rowZ kz z1 z2 row rt L m++[t.node kz z1 z2 row m (decide (m+1=L.length)) rt (qK L m)]:=by simp[TreeV.rowZ,List.range_succ]
theorem qr (t:TreeV)(kz z1 z2:List Int)(row:Nat)(rt:Bool)(L:List (List Int))(m:Nat):(t.rowZ kz z1 z2 row rt L m).length=m:=by simp[TreeV.rowZ]
structure CallS where
 k:Int
 bs:List Int
 kz:List Int
 la:Bool
 o:Int
 ds:List Int
def CallS.zero:CallS:=⟨0,[],[],false,0,[]⟩
def KeepH (w0:World)(B:Nat)(w:World)(v:Value)(z:List Int):Prop:=OwnB B w v z∨Hold w0 v z∧Below w0.heap.size w0 w
theorem KeepH.hold {w0 w:World}{B:Nat}{v:Value}{z:List Int}(h:KeepH w0 B w v z):Hold w v z:=by
 rcases h with h|⟨h,hb⟩
 ·exact h.hold
 ·exact h.below hb
theorem KeepH.kb {w0 w w':World}{B b:Nat}{v:Value}{z:List Int}(h:KeepH w0 B w v z)(hb:w0.heap.size≤b)(k:KB b w w'):KeepH w0 B w' v z:=by
 rcases h with h|⟨h,h2⟩
 ·exact .inl (h.kb k)
 ·exact .inr ⟨h,h2.trans (k.below.mono hb)⟩
theorem KeepH.le {w0 w:World}{B b:Nat}{v:Value}{z:List Int}(h:KeepH w0 B w v z)(hb:b≤B):KeepH w0 b w v z:=by
 rcases h with h|h
 ·exact .inl (h.le hb)
 ·exact .inr h
def CallAt (w0:World)(B:Nat)(w:World)(s:CallS)(c:List Value):Prop:=
 ∃a1 n1 c1 a2 n2 c2 a3 n3 c3,c=[.int .i64 s.k,.slice a1 n1 c1,.slice a2 n2 c2,.bool s.la,.int .i64 s.o,.slice a3 n3 c3]∧OwnB B w (.slice a1 n1 c1) s.bs∧KeepH w0 B w (.slice a2 n2 c2) s.kz∧KeepH w0 B w (.slice a3 n3 c3) s.ds
theorem CallAt.kb {w0 w w':World}{B b:Nat}{s:CallS}{c:List Value}(h:CallAt w0 B w s c)(hb:w0.heap.size≤b)(k:KB b w w'):CallAt w0 B w' s c:=by
 obtain⟨a1,n1,c1,a2,n2,c2,a3,n3,c3,e,h1,h2,h3⟩:=h;exact⟨a1,n1,c1,a2,n2,c2,a3,n3,c3,e,h1.kb k,h2.kb hb k,h3.kb hb k⟩
theorem CallAt.le {w0 w:World}{B b:Nat}{s:CallS}{c:List Value}(h:CallAt w0 B w s c)(hb:b≤B):CallAt w0 b w s c:=by
 obtain⟨a1,n1,c1,a2,n2,c2,a3,n3,c3,e,h1,h2,h3⟩:=h;exact⟨a1,n1,c1,a2,n2,c2,a3,n3,c3,e,h1.le hb,h2.le hb,h3.le hb⟩
def CallsO (w0:World)(B:Nat)(w:World)(v:Value)(S:List CallS):Prop:=
 ∃cs:List (List Value),cs.length=S.length∧w.ownsRow B 40 6 v S.length cs.flatten∧ ∀i,i<S.length→CallAt w0 B w (S.getD i .zero) (cs.getD i [])
theorem CallsO.nil (w0:World)(B:Nat)(w:World):CallsO w0 B w (.slice none 0 0) []:=⟨[],rfl,Wo _ _ _ _,fun i hi=>by simp at hi⟩
theorem CallsO.kb {w0 w w':World}{B b:Nat}{v:Value}{S:List CallS}(h:CallsO w0 B w v S)(hb:w0.heap.size≤b)(k:KB b w w')(hs: ∀g,v.ownBlock=some g→w'.heap[g]? =w.heap[g]?):CallsO w0 B w' v S:=by
 obtain⟨cs,hl,ho,hx⟩:=h;refine⟨cs,hl,⟨ho.1,?_⟩,fun i hi=>(hx i hi).kb hb k⟩;rcases ho.2 with h2|⟨g,cap,cur,rfl,h1,h2,h3⟩
 ·exact .inl h2
 ·exact .inr ⟨g,cap,cur,rfl,h1,by rw[hs g rfl];exact h2,h3⟩
theorem je {w:World}{B T n s:Nat}{v:Value}{xs:List Value}(ho:w.ownsRow B T s v n xs): ∀g,v.ownBlock=some g→g<w.heap.size:=by
 intro g hg;rcases ho.2 with⟨rfl, -⟩|⟨g',cap,cur,rfl, -,h2, -⟩
 ·cases hg
 ·simp only[Value.ownBlock,Option.some.injEq]at hg;subst hg;exact(Ai h2).1
theorem CallsO.below {w0 w w':World}{B:Nat}{v:Value}{S:List CallS}(h:CallsO w0 B w v S)(hw:w0.heap.size≤w.heap.size)(k:Below w.heap.size w w'):CallsO w0 B w' v S:=by
 refine h.kb hw (KB.of_below k Nl) fun g hg=>?_
 obtain⟨cs, -,ho, -⟩:=h;exact k.block g (je ho g hg)
theorem CallsO.le {w0 w:World}{B b:Nat}{v:Value}{S:List CallS}(h:CallsO w0 B w v S)(hb:b≤B):CallsO w0 b w v S:=by
 obtain⟨cs,hl,ho,hx⟩:=h;exact⟨cs,hl,ownsRow_le ho hb,fun i hi=>(hx i hi).le hb⟩
theorem Zq {α:Type}(L:List α)(x d:α)(i:Nat):(L++[x]).getD i d=if i<L.length then L.getD i d else if i=L.length then x else d:=by
 simp only[Lg];by_cases h:i<L.length
 ·rw[List.getElem?_append_left h,if_pos h]
 ·rw[if_neg h,List.getElem?_append_right (by omega)];by_cases h2:i=L.length
  ·subst h2;simp
  ·rw[if_neg h2,List.getElem?_eq_none (by simp;omega)];rfl
theorem CallsO.snoc {w0 w w':World}{B:Nat}{v':Value}{S:List CallS}{s:CallS}{cs:List (List Value)}{c:List Value}(hx: ∀i,i<S.length→CallAt w0 B w (S.getD i .zero) (cs.getD i []))(hl:cs.length=S.length)(hz:CallAt w0 B w s c)
  (ho:w'.ownsRow B 40 6 v' (S.length+1) (cs.flatten++c)) (hb:w0.heap.size≤B) (hk:KB B w w'):CallsO w0 B w' v' (S++[s]):=by
 refine⟨cs++[c],by simp[hl],by simpa using ho,fun i hi=>?_⟩;simp only[List.length_append,List.length_singleton]at hi;rw[Zq,Zq,hl];by_cases h:i<S.length
 ·rw[if_pos h,if_pos h];exact(hx i h).kb hb hk
 ·rw[if_neg h,if_neg h,if_pos (by omega),if_pos (by omega)];exact hz.kb hb hk
theorem Yz {W W':World}{B1 B2 T1 T2 s1 s2 n1 n2:Nat}{v1 v2:Value}{x1 x2:List Value}(h1:W.ownsRow B1 T1 s1 v1 n1 x1)(h2:W.ownsRow B2 T2 s2 v2 n2 x2)(hT:T1≠T2)(h:Spare (fun k=>v1.ownBlock≠some k) W W'): ∀g,v2.ownBlock=some g→W'.heap[g]? =W.heap[g]? :=by
 intro g hg;refine h.block g (je h2 g hg) fun e=>?_
 rcases h1.2 with⟨rfl, -⟩|⟨g1,k1,c1,rfl, -,p1, -⟩
 ·cases e
 rcases h2.2 with⟨rfl, -⟩|⟨g2,k2,c2,rfl, -,p2, -⟩
 ·cases hg
 simp only[Value.ownBlock,Option.some.injEq]at e hg;subst e hg;rw[p1]at p2;simp only[Option.some.injEq,Obj.cells.injEq]at p2;exact hT p2.2.1
theorem qb3 {W W':World}{B T s n:Nat}{v:Value}{xs:List Value}(h:W.ownsRow B T s v n xs)(hs: ∀g,v.ownBlock=some g→W'.heap[g]? =W.heap[g]?):W'.ownsRow B T s v n xs:=by
 refine⟨h.1,?_⟩;rcases h.2 with h2|⟨g,cap,cur,rfl,h1,h2,h3⟩
 ·exact .inl h2
 ·exact .inr ⟨g,cap,cur,rfl,h1,by rw[hs g rfl];exact h2,h3⟩
theorem yY {W:World}{B T s n:Nat}{v:Value}{xs:List Value}(h:W.ownsRow B T s v n xs): ∃a n c,v= .slice a n c:=by
 rcases h.2 with⟨rfl, -⟩|⟨g,cap,cur,rfl, -⟩
 ·exact⟨_,_,_,rfl⟩
 ·exact⟨_,_,_,rfl⟩
def LevO (w0:World)(B:Nat)(w:World)(v:Value)(SS:List (List CallS)):Prop:=
 ∃vs:List Value,w.ownsRow B 47 1 v SS.length vs∧ ∀i,i<SS.length→CallsO w0 B w (vs.getD i undef) (SS.getD i [])
theorem LevO.nil (w0:World)(B:Nat)(w:World):LevO w0 B w (.slice none 0 0) []:=⟨[],Wo _ _ _ _,fun i hi=>by simp at hi⟩
theorem LevO.below {w0 w w':World}{B:Nat}{v:Value}{SS:List (List CallS)}(h:LevO w0 B w v SS)(hw:w0.heap.size≤w.heap.size)(k:Below w.heap.size w w'):LevO w0 B w' v SS:=by
 obtain⟨vs,ho,hx⟩:=h;exact⟨vs,qf ho (fun g _ g2=>k.block g g2),fun i hi=>(hx i hi).below hw k⟩
theorem LevO.le {w0 w:World}{B b:Nat}{v:Value}{SS:List (List CallS)}(h:LevO w0 B w v SS)(hb:b≤B):LevO w0 b w v SS:=by
 obtain⟨vs,ho,hx⟩:=h;exact⟨vs,ownsRow_le ho hb,fun i hi=>(hx i hi).le hb⟩
theorem LevO.snoc {w0 w w':World}{B:Nat}{v v' x:Value}{SS:List (List CallS)}{S:List CallS}{vs:List Value}(ho:w.ownsRow B 47 1 v SS.length vs)(hx: ∀i,i<SS.length→CallsO w0 B w (vs.getD i undef) (SS.getD i []))(hz:CallsO w0 B w x S)
  (ho':w'.ownsRow B 47 1 v' (SS.length+1) (vs++[x])) (hb:w0.heap.size≤B) (hk:KB B w w') (hsp:Spare (fun k=>v.ownBlock≠some k) w w'):LevO w0 B w' v' (SS++[S]):=by
 have hl:vs.length=SS.length:=by have:=ho.1;simpa using this
 have one: ∀u S,CallsO w0 B w u S→CallsO w0 B w' u S:=fun u S h=>by
  refine h.kb hb hk fun g hg=>?_
  obtain⟨cs, -,h2, -⟩:=h;exact Yz ho h2 (by decide) hsp g hg
 refine⟨vs++[x],by simpa using ho',fun i hi=>?_⟩;simp only[List.length_append,List.length_singleton]at hi;rw[Zq,Zq,hl];by_cases h:i<SS.length
 ·rw[if_pos h,if_pos h];exact one _ _ (hx i h)
 ·rw[if_neg h,if_neg h,if_pos (by omega),if_pos (by omega)];exact one _ _ hz
theorem jH:(Tryz.prog.info? 40).map (fun i=>(i.zero,i.size,i.bytes))=some (some (.agg #[.int .i64 0,.slice none 0 0,.slice none 0 0,.bool false,.int .i64 0,.slice none 0 0]),6,96):=by kernel_rfl
theorem JX:(Tryz.prog.info? 47).map (fun i=>(i.zero,i.size,i.bytes))=some (some (.slice none 0 0),1,24):=by kernel_rfl
theorem ZF {ops:Array Oper}{rest:List Oper}{o:Oper}{act:Act}{w:World}{Q:Exit→Act→World→Prop}(hg:o.guard=none)(x:Operand)(ho:o.op= .buildSlice 47 1 #[(0,x)])(x0 x1 x2 x3 x4 x5:Value)(hx:act.eval x= .agg #[x0,x1,x2,x3,x4,x5])
  (h:wpList Tryz.prog ops Q rest (act.put o.dst (.slice (some ⟨w.heap.size,0,none⟩) 1 1)) (w.alloc (.cells #[x0,x1,x2,x3,x4,x5] 40))):wpList Tryz.prog ops Q (o::rest) act w:=by
 obtain⟨ib,hib,hzb,hsb, -⟩:=info_parts jH;exact wpList_buildSlice hg 47 40 1 _ ho #[x0,x1,x2,x3,x4,x5] ib _ Tryz.underlying47 hib hzb (by rw[hsb];decide) (by rw[hsb];decide) (by rw[hsb,show Array.range (1*6)= #[0,1,2,3,4,5] by decide];simp[hx,Instr.fill,Value.cells]) h
theorem qai {ops:Array Oper}{rest:List Oper}{o:Oper}{act:Act}{w:World}{Q:Exit→Act→World→Prop}(hg:o.guard=none)(x:Operand)(ho:o.op= .buildSlice 91 1 #[(0,x)])(a:Option Addr)(n k:Nat)(hx:act.eval x= .slice a n k)
  (h:wpList Tryz.prog ops Q rest (act.put o.dst (.slice (some ⟨w.heap.size,0,none⟩) 1 1)) (w.alloc (.cells #[.slice a n k] 47))):wpList Tryz.prog ops Q (o::rest) act w:=by
 obtain⟨ib,hib,hzb,hsb, -⟩:=info_parts JX;exact wpList_buildSlice hg 91 47 1 _ ho #[.slice a n k] ib _ Tryz.underlying91 hib hzb (by rw[hsb];decide) (by rw[hsb];decide) (by rw[hsb,show Array.range (1*1)= #[0] by decide];simp[hx,Instr.fill,Value.cells]) h
def TreeV.callS (t:TreeV)(kz z1 z2:List Int)(row i:Nat)(la rt:Bool)(d:List Int):CallS:=⟨t.k,t.blk z1 z2 row i,zB row kz,la,t.outN rt,d⟩
def TreeV.rowC (t:TreeV)(kz z1 z2:List Int)(row:Nat)(rt:Bool)(L:List (List Int))(m:Nat):List CallS:=(List.range m).map fun i=>t.callS kz z1 z2 row i (decide (i+1=L.length)) rt (qK L i)
theorem zz (t:TreeV)(kz z1 z2:List Int)(row:Nat)(rt:Bool)(L:List (List Int))(m:Nat):t.rowC kz z1 z2 row rt L (m+1)=t.rowC kz z1 z2 row rt L m++[t.callS kz z1 z2 row m (decide (m+1=L.length)) rt (qK L m)]:=by simp[TreeV.rowC,List.range_succ]
theorem Qh (t:TreeV)(kz z1 z2:List Int)(row:Nat)(rt:Bool)(L:List (List Int))(m:Nat):(t.rowC kz z1 z2 row rt L m).length=m:=by simp[TreeV.rowC]
theorem Yq (w:World)(m:Nat):Below w.heap.size w (w.drewN m):=by
 induction m with
 | zero=>exact Below.refl _ _
 | succ m ih=>exact ih.drew
theorem qfM (W:World)(u:Value)(T:TypeId)(hu:u.oneCell'=true):SrcIs (W.alloc (.cells #[u] T)) (.slice (some ⟨W.heap.size,0,none⟩) 1 1) 1 [u]:=
 ⟨rfl,fun x hx=>by rw[List.mem_singleton.1 hx];exact hu,.inr ⟨_,_,rfl,cell_one_new W u T⟩⟩
end Go.Proofs.YtdndeffmlhaipaaGreatDoor
