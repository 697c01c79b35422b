/- A block's numbers lie in it: laid anew they give the block. Plain. No condition. -/
import Derived.Test.YtdndeffmlhaipaaGreatC25
import Derived.Test.YtdndeffmlhaipaaGreatC22
import Derived.Test.YtdndeffmlhaipaaGreatC04
import Derived.Test.YtdndeffmlhaipaaGreatC14
import Derived.Test.YtdndeffmlhaipaaGreatC21
import Derived.Test.YtdndeffmlhaipaaGreatC18
import Derived.Test.YtdndeffmlhaipaaGreatC27
import Derived.Test.YtdndeffmlhaipaaGreatC19
set_option linter.all false
set_option maxRecDepth 100000
set_option maxHeartbeats 8000000
namespace Go.Proofs.YtdndeffmlhaipaaGreat
open Go.ChangeShapes Go.WideShapes Go.ChangeAt Go.RowKit Go.Joins Go.Shelf Go.Maps
open Go.Lib (hid)
theorem qfs {zs:List Int}(hz: ∀z∈zs,0≤z∧z≤255)(p:Nat): ∀n,p+n≤zs.length→ ∀j,byt (Qb zs p n).toNat j=if j<n then qo zs (p+j) else 0
  | 0,_,j=>by simp[Qb,byt,jz]
  | n+1,h,j=>by
    have ih:=qfs hz p n (by omega) j;have hb:=QA (zs:=zs) hz (at_:=p) n (by omega);obtain⟨-,z1,z2⟩:=qR hz (show p+n<zs.length by omega);obtain⟨z,hzz⟩: ∃z:Nat,qo zs (p+n)=z:=⟨(qo zs (p+n)).toNat,by omega⟩;obtain⟨a,ha⟩: ∃a:Nat,Qb zs p n=a:=⟨(Qb zs p n).toNat,by omega⟩;have hpw:(2:Int)^(8*n)=((256^n:Nat):Int):=by
      rw[Int.pow_mul];norm_cast
    have ha2:a<256^n:=by
      have:=hb.2;rw[ha,hpw]at this;exact_mod_cast this
    have e:(Qb zs p (n+1)).toNat=a+z*256^n:=by
      rw[Qb,ha,hzz,hpw,←Int.natCast_mul,←Int.natCast_add,Int.toNat_natCast]
    rw[ha,Int.toNat_natCast]at ih;rw[e];unfold byt jz at ih⊢;by_cases h1:j<n
    · rw[if_pos h1]at ih
      rw[if_pos (by omega),←ih];have e2:256^n=256^j*(256*256^(n - j - 1)):=by
        rw[←Nat.pow_succ',←Nat.pow_add];congr 1;omega
      rw[e2,show z*(256^j*(256*256^(n - j - 1)))=256^j*(256*(z*256^(n - j - 1))) by
        rw[Nat.mul_left_comm z,Nat.mul_left_comm z],Nat.add_mul_div_left _ _ (Nat.pow_pos (by omega)),Nat.add_mul_mod_self_left]
    · by_cases h2:j=n
      · subst h2
        rw[if_pos (by omega),Nat.add_mul_div_right _ _ (Nat.pow_pos (by omega)),Nat.div_eq_of_lt ha2,Nat.zero_add,hzz];have:z%256=z:=Nat.mod_eq_of_lt (by omega)
        rw[this]
      · rw[if_neg (by omega)]
        have:a+z*256^n<256^j:=by
          have h3:256^(n+1)≤256^j:=Nat.pow_le_pow_right (by omega) (by omega);have h4:z*256^n≤255*256^n:=Nat.mul_le_mul_right _ (by omega);have h5:256^(n+1)=256*256^n:=Nat.pow_succ';omega
        rw[Nat.div_eq_of_lt this];rfl
theorem qb9 {x:List Int}{j:Nat}(hj:j<x.length):qo x j=if j<(yN x).length then qo (yN x) j else 0:=by
  have hl:(yN x).length=Qd x x.length:=by unfold yN;have:=Zx x x.length;simp;omega
  rw[hl];by_cases h:j<Qd x x.length
  · rw[if_pos h];unfold yN qo;simp[Lg,List.getElem?_take,h]
  · rw[if_neg h];exact qaO x _ _ (by omega) hj
theorem Qo (big x0:Bool)(v:Nat→Nat){k:Nat}(hk:k+1≤9)(i:Nat):
    qo (Qt big x0 v (k+1)) i=if ¬(k+1=7∧x0=true)∧atB big (k+1)≤i∧i<atB big (k+1)+szB big (k+1) then byt (v (k+1)) (i - atB big (k+1)) else qo (Qt big x0 v k) i:=by
  have hs:=QV big false (k+1) (by omega) (by omega);have e:szE big false (k+1)=szB big (k+1):=by simp[szE]
  rw[e]at hs;have hm:32≤mB big:=by cases big<;>decide
  rw[Qt];by_cases h:k+1=7∧x0=true
  · rw[if_pos h,if_neg (fun h2=>h2.1 h)]
  · rw[if_neg h,Ym (by rw[qS,QH big x0 v k (by omega)];omega),qS]
    by_cases h2:atB big (k+1)≤i∧i<atB big (k+1)+szB big (k+1)
    · rw[if_pos h2,if_pos ⟨h,h2⟩]
      simp[qo,Qa,Lg,show i - atB big (k+1)<szB big (k+1) by omega]
    · rw[if_neg h2,if_neg (fun h3=>h2 h3.2)]
theorem jt (big x0:Bool)(v:Nat→Nat)(i:Nat):qo (Qt big x0 v 0) i=0:=by
  unfold Qt qo;simp only[Lg,List.getElem?_replicate];split<;>rfl
theorem qg0 {big ext:Bool}{zs:List Int}(hz: ∀z∈zs,0≤z∧z≤255)(hl:zs.length=mB big)(hm:big=true→ ∀i,18≤i→i<32→qo zs i=0)(hx:ext=true→xoZ big ext zs≠0){i:Nat}(hi:i<2*sB big):
    qo (Qt big (Yi big ext zs 7==0) (Yi big ext zs) 9) i=qo zs i:=by
  have hv: ∀f,1≤f→f≤9→ ¬(f=7∧ext=false)→Yi big ext zs f=(Qb zs (atB big f) (szE big ext f)).toNat:=fun f h1 h2 h3=>by
    have:=JA (big:=big) (ext:=ext) hz hl h1 h2 h3;omega
  have hb: ∀f j,1≤f→f≤9→ ¬(f=7∧ext=false)→byt (Yi big ext zs f) j=if j<szE big ext f then qo zs (atB big f+j) else 0:=fun f j h1 h2 h3=>by
    rw[hv f h1 h2 h3];have hs:=QV big ext f h1 h2;exact qfs hz _ _ (by rw[hl];cases big;(have:=hs.2.2.2 rfl;show _≤32;omega);(show _≤64;omega)) j
  have hx0:(Yi big ext zs 7==0)= !ext:=by
    cases ext
    · rfl
    · have h7:((Yi big true zs 7:Nat):Int)=xoZ big true zs:=by
        rw[JA hz hl (by omega) (by omega) (by simp)];cases big<;>rfl
      have:=hx rfl
      rw[Bool.not_true,beq_eq_false_iff_ne];omega
  rw[hx0];rw[Qo _ _ _ (k:=8) (by omega),Qo _ _ _ (k:=7) (by omega),Qo _ _ _ (k:=6) (by omega),Qo _ _ _ (k:=5) (by omega),Qo _ _ _ (k:=4) (by omega),Qo _ _ _ (k:=3) (by omega),Qo _ _ _ (k:=2) (by omega),Qo _ _ _ (k:=1) (by omega),Qo _ _ _ (k:=0) (by omega),jt];rw[hb 9 _ (by omega) (by omega) (by omega),hb 8 _ (by omega) (by omega) (by omega),hb 6 _ (by omega) (by omega) (by omega),hb 5 _ (by omega) (by omega) (by omega),hb 4 _ (by omega) (by omega) (by omega),hb 3 _ (by omega) (by omega) (by omega),hb 2 _ (by omega) (by omega) (by omega),hb 1 _ (by omega) (by omega) (by omega)]
  cases big
  · have hi:i<16:=hi
    rcases(show i=0∨i=1∨i=2∨i=3∨i=4∨i=5∨i=6∨i=7∨i=8∨i=9∨i=10∨i=11∨i=12∨i=13∨i=14∨i=15 by omega)with rfl|rfl|rfl|rfl|rfl|rfl|rfl|rfl|rfl|rfl|rfl|rfl|rfl|rfl|rfl|rfl<;>cases ext<;>simp[atB,szB,szE]<;>(rw[hb 7 _ (by omega) (by omega) (by simp)];simp[atB,szB,szE])
  · have hi:i<32:=hi
    by_cases h18:18≤i
    · rw[hm rfl i h18 hi]
      have n1: ∀f,1≤f→f≤9→ ¬(atB true f≤i∧i<atB true f+szB true f):=fun f h1 h2 h3=>by
        have hs:=QV true false f h1 h2;rw[show szE true false f=szB true f by simp[szE]]at hs;omega
      rw[if_neg (fun h=>n1 9 (by omega) (by omega) h.2),if_neg (fun h=>n1 8 (by omega) (by omega) h.2),if_neg (fun h=>n1 7 (by omega) (by omega) h.2),if_neg (fun h=>n1 6 (by omega) (by omega) h.2),if_neg (fun h=>n1 5 (by omega) (by omega) h.2),if_neg (fun h=>n1 4 (by omega) (by omega) h.2),if_neg (fun h=>n1 3 (by omega) (by omega) h.2),if_neg (fun h=>n1 2 (by omega) (by omega) h.2),if_neg (fun h=>n1 1 (by omega) (by omega) h.2)]
    · rcases(show i=0∨i=1∨i=2∨i=3∨i=4∨i=5∨i=6∨i=7∨i=8∨i=9∨i=10∨i=11∨i=12∨i=13∨i=14∨i=15∨i=16∨i=17 by omega)with rfl|rfl|rfl|rfl|rfl|rfl|rfl|rfl|rfl|rfl|rfl|rfl|rfl|rfl|rfl|rfl|rfl|rfl<;>cases ext<;>simp[atB,szB,szE]<;>(rw[hb 7 _ (by omega) (by omega) (by simp)];simp[atB,szB,szE])
theorem qhf {big ext:Bool}{zs:List Int}(hz: ∀z∈zs,0≤z∧z≤255)(h:okD big ext zs):QT big (Yi big ext zs) (Yy big zs) (YO big zs)=zs:=by
  obtain⟨hl,hm,hx, -⟩:=h;have hM:mB big=4*sB big:=by cases big<;>rfl
  have hle: ∀x:List Int,(yN x).length≤x.length:=fun x=>by unfold yN;rw[List.length_take];omega
  have e1:((zs.drop (2*sB big)).take (sB big)).length=sB big:=by simp;omega
  have e2:((zs.drop (3*sB big)).take (sB big)).length=sB big:=by simp;omega
  have l1:(Yy big zs).length≤sB big:=Nat.le_trans (hle _) (by omega);have l2:(YO big zs).length≤sB big:=Nat.le_trans (hle _) (by omega);have hF:=QH big (Yi big ext zs 7==0) (Yi big ext zs) 9 (by omega);have hlen:=yh (big:=big) (v:=Yi big ext zs) l1 l2;have hz0: ∀i,2*sB big≤i→qo (Qt big (Yi big ext zs 7==0) (Yi big ext zs) 9) i=0:=fun i hi=>by
    have hs16:16≤2*sB big∧(big=true→18≤2*sB big):=by cases big<;>decide
    have n1: ∀f,1≤f→f≤9→ ¬(atB big f≤i∧i<atB big f+szB big f):=fun f h1 h2 h3=>by
      have hs:=QV big false f h1 h2;rw[show szE big false f=szB big f by simp[szE]]at hs
      cases big
      · have:=hs.2.2.2 rfl;omega
      · have:=hs16.2 rfl;omega
    rw[Qo _ _ _ (k:=8) (by omega),Qo _ _ _ (k:=7) (by omega),Qo _ _ _ (k:=6) (by omega),Qo _ _ _ (k:=5) (by omega),Qo _ _ _ (k:=4) (by omega),Qo _ _ _ (k:=3) (by omega),Qo _ _ _ (k:=2) (by omega),Qo _ _ _ (k:=1) (by omega),Qo _ _ _ (k:=0) (by omega),jt];rw[if_neg (fun h=>n1 9 (by omega) (by omega) h.2),if_neg (fun h=>n1 8 (by omega) (by omega) h.2),if_neg (fun h=>n1 7 (by omega) (by omega) h.2),if_neg (fun h=>n1 6 (by omega) (by omega) h.2),if_neg (fun h=>n1 5 (by omega) (by omega) h.2),if_neg (fun h=>n1 4 (by omega) (by omega) h.2),if_neg (fun h=>n1 3 (by omega) (by omega) h.2),if_neg (fun h=>n1 2 (by omega) (by omega) h.2),if_neg (fun h=>n1 1 (by omega) (by omega) h.2)]
  have key: ∀i,i<mB big→qo (QT big (Yi big ext zs) (Yy big zs) (YO big zs)) i=qo zs i:=fun i hi=>by
    have hS1:(Qc (Qt big (Yi big ext zs 7==0) (Yi big ext zs) 9) (2*sB big) (Yy big zs)).length=mB big:=by rw[Qe (by omega),hF]
    unfold QT;rw[Ym (by omega),Ym (by omega)];by_cases h3:3*sB big≤i
    · have hj:i - 3*sB big<((zs.drop (3*sB big)).take (sB big)).length:=by omega
      have ht:=qb9 hj;rw[qa9 (by omega),show 3*sB big+(i - 3*sB big)=i by omega]at ht;by_cases h4:i<3*sB big+(YO big zs).length
      · rw[if_pos ⟨h3,h4⟩];rw[if_pos (by show _<(YO big zs).length;omega)]at ht;exact ht.symm
      · rw[if_neg (by omega),if_neg (by omega),hz0 i (by omega)];rw[if_neg (by show ¬_<(YO big zs).length;omega)]at ht;exact ht.symm
    · rw[if_neg (by omega)]
      by_cases h2:2*sB big≤i
      · have hj:i - 2*sB big<((zs.drop (2*sB big)).take (sB big)).length:=by omega
        have ht:=qb9 hj;rw[qa9 (by omega),show 2*sB big+(i - 2*sB big)=i by omega]at ht;by_cases h4:i<2*sB big+(Yy big zs).length
        · rw[if_pos ⟨h2,h4⟩];rw[if_pos (by show _<(Yy big zs).length;omega)]at ht;exact ht.symm
        · rw[if_neg (by omega),hz0 i (by omega)];rw[if_neg (by show ¬_<(Yy big zs).length;omega)]at ht;exact ht.symm
      · rw[if_neg (by omega)];exact qg0 hz hl hm hx (by omega)
  apply List.ext_getElem (by rw[hlen,hl])
  intro i h1 h2;have:=key i (by omega)
  simpa [qo,Lg,h1,h2] using this
theorem jw {big:Bool}{v:Nat→Nat}{z1 z2:List Int}(h1:z1.length≤sB big)(h2:z2.length≤sB big){i:Nat}(hi:i<2*sB big):qo (QT big v z1 z2) i=qo (Qt big (v 7==0) v 9) i:=by
 have e:=QH big (v 7==0) v 9 (by omega);have hm:4*sB big=mB big:=by cases big<;>decide
 unfold QT;rw[Ym (by rw[Qe (by omega)];omega),if_neg (by omega),Ym (by omega),if_neg (by omega)]
theorem qG {big x0:Bool}{v:Nat→Nat}(k:Nat){i:Nat}(hk:k+1≤9)(h: ¬(atB big (k+1)≤i∧i<atB big (k+1)+szB big (k+1))):qo (Qt big x0 v (k+1)) i=qo (Qt big x0 v k) i:=by
 rw[Qo big x0 v hk i,if_neg (fun h2=>h h2.2)]
theorem ZV {big x0:Bool}{v:Nat→Nat}(k:Nat){i:Nat}(hk:k+1≤9)(h7:k+1≠7)(h:atB big (k+1)=i):qo (Qt big x0 v (k+1)) i=byt (v (k+1)) 0:=by
 have hs:1≤szB big (k+1):=by
  have:=QV big false (k+1) (by omega) hk
  simpa [szE] using this.1
 rw[Qo big x0 v hk i,if_pos ⟨fun h2=>h7 h2.1,by omega,by omega⟩,←h,Nat.sub_self]
theorem zW {x:Nat}(h:x≤255):byt x 0=(x:Int):=by
 have:=zJ x 0
 simp at this
 omega
theorem qhI {big:Bool}{v:Nat→Nat}{z1 z2:List Int}(hP:ParOk big v)(h1:z1.length≤sB big)(h2:z2.length≤sB big):okD big false (QT big v z1 z2)∧qo (QT big v z1 z2) 1=(v 2:Nat):=by
 have hs:8≤sB big:=by cases big<;>decide
 have hm:mB big≤64:=by cases big<;>decide
 obtain⟨p1,p2,p3,p4, -,p6,p7⟩:=hP.p;have g0:qo (QT big v z1 z2) 0=(v 1:Nat):=by
  rw[jw h1 h2 (by omega),qG 8 (by omega) (by cases big<;>decide),qG 7 (by omega) (by cases big<;>decide),qG 6 (by omega) (by cases big<;>decide),qG 5 (by omega) (by cases big<;>decide),qG 4 (by omega) (by cases big<;>decide),
   qG 3 (by omega) (by cases big<;>decide),qG 2 (by omega) (by cases big<;>decide),qG 1 (by omega) (by cases big<;>decide),ZV 0 (by omega) (by omega) (by cases big<;>rfl)]
  exact zW (x:=v 1) (by omega)
 have g1:qo (QT big v z1 z2) 1=(v 2:Nat):=by
  rw[jw h1 h2 (by omega),qG 8 (by omega) (by cases big<;>decide),qG 7 (by omega) (by cases big<;>decide),qG 6 (by omega) (by cases big<;>decide),qG 5 (by omega) (by cases big<;>decide),qG 4 (by omega) (by cases big<;>decide),
   qG 3 (by omega) (by cases big<;>decide),qG 2 (by omega) (by cases big<;>decide),ZV 1 (by omega) (by omega) (by cases big<;>rfl)]
  exact zW (x:=v 2) (by omega)
 have g3:qo (QT big v z1 z2) 3=(v 4:Nat):=by
  rw[jw h1 h2 (by omega),qG 8 (by omega) (by cases big<;>decide),qG 7 (by omega) (by cases big<;>decide),qG 6 (by omega) (by cases big<;>decide),qG 5 (by omega) (by cases big<;>decide),qG 4 (by omega) (by cases big<;>decide),
   ZV 3 (by omega) (by omega) (by cases big<;>rfl)]
  exact zW (x:=v 4) (by omega)
 have h9:atB big 9<2*sB big:=by cases big<;>decide
 have g9:qo (QT big v z1 z2) (atB big 9)=(v 9:Nat):=by
  rw[jw h1 h2 h9,ZV 8 (by omega) (by omega) rfl];exact zW (x:=v 9) (by omega)
 refine⟨⟨yh h1 h2,fun hb i i1 i2=>?_,fun h=>(by cases h),?_⟩,g1⟩
 ·subst hb;have hsi:i<2*sB true:=i2;have ha: ∀k,k<9→ ¬(atB true (k+1)≤i∧i<atB true (k+1)+szB true (k+1)):=fun k hk h=>by
   have:atB true (k+1)+szB true (k+1)≤18:=by
    rcases(show k=0∨k=1∨k=2∨k=3∨k=4∨k=5∨k=6∨k=7∨k=8 by omega)with rfl|rfl|rfl|rfl|rfl|rfl|rfl|rfl|rfl<;>decide
   omega
  rw[jw h1 h2 hsi,qG 8 (by omega) (ha 8 (by omega)),qG 7 (by omega) (ha 7 (by omega)),qG 6 (by omega) (ha 6 (by omega)),qG 5 (by omega) (ha 5 (by omega)),qG 4 (by omega) (ha 4 (by omega)),qG 3 (by omega) (ha 3 (by omega)),
   qG 2 (by omega) (ha 2 (by omega)),qG 1 (by omega) (ha 1 (by omega)),qG 0 (by omega) (ha 0 (by omega)),jt]
 ·rw[g0,g1,g3,g9];exact⟨p1,p2,fun _=>p4.1,p7⟩
end Go.Proofs.YtdndeffmlhaipaaGreat
namespace Go.Proofs.YtdndeffmlhaipaaGreat
open Go.ChangeShapes Go.WideShapes Go.ChangeAt Go.RowKit Go.Joins Go.Shelf Go.Maps
open Go.Lib (hid)
attribute [local go_sem] Oper.semAt_some
theorem qfV {zs:List Int}{i p n:Nat}(h:i<n):qo ((zs.drop p).take n) i=qo zs (p+i):=by
 unfold qo;simp[Lg,List.getElem?_take,h,List.getElem?_drop]
theorem JZ {w w':World}{a:Option Addr}{n c:Nat}{zs:List Int}(h:Hold w (.slice a n c) zs)(hb:Below w.heap.size w w'){j:Nat}(hj:j<zs.length): ∃b off,a=some ⟨b,off,none⟩∧b<w'.heap.size∧w'.cell? ⟨b,off+j,none⟩=some (.int .u8 (qo zs j))∧0≤qo zs j∧qo zs j≤255:=by
 have hne:zs≠[]:=fun e=>by rw[e]at hj;simp at hj
 rcases h.2 with⟨h2, -⟩|⟨ad,cap,e, -, -,h3⟩
 ·exact absurd h2 hne
 ·obtain⟨b,off,rfl,h4,h5⟩:=h3.resolve_left hne;simp only[Value.slice.injEq]at e;exact⟨b,off,e.1,Nat.lt_of_lt_of_le h4 hb.size,(hb.cell (p:=⟨b,off+j,none⟩) h4).trans (h5 j hj),(qR h.1 hj).2⟩
theorem je (lo n:Nat)(h:lo+n<9223372036854775808)(w:World):
  Calls Tryz.prog 123 #[.int .u64 (lo:Nat),.int .u64 0,.int .u64 (n:Nat)] w fun e w'=>e= .returned (.tuple #[.int .u64 ((lo+n:Nat):Int),.int .u64 0,.bool false])∧w'=w:=by
 have q1:IntKind.u64.wrap ((lo:Int)+n)=(lo:Int)+n:=u64_wrap_id _ (by omega) (by omega);have q2: ¬((lo:Int)+n<lo):=by omega
 have q3:(lo:Int)≤(lo:Int)+n:=by omega
 rw[Int.natCast_add];clear h;go_enter Tryz.func123,Tryz.ntmps123
 go_wp2
 exact Bp (results_tmp3 (fn:=Tryz.f123) (t:=6) (u:=7) (v:=8) rfl _ _ _) rfl ⟨rfl,rfl⟩
theorem Jp {n:Nat}{x:List Int}{j:Nat}(hj:j<n)(hx:x.length≤n):(Qv n x).take (j+1)=(Qv n x).take j++[if j<x.length then qo x j else 0]:=by
 have hl:=QC hx;rw[Z7 (zs:=Qv n x) (by omega)];congr 2
 unfold Qv qo;simp only[Lg];by_cases h:j<x.length
 ·rw[if_pos h,List.getElem?_append_left h]
 ·rw[if_neg h,List.getElem?_append_right (by omega),List.getElem?_replicate,if_pos (by omega)];rfl
theorem jd (zs:List Int)(v:Value)(p n:Nat)(w:World)(h:Hold w v zs)(hn:n≤65535)(hp:p≤zs.length)(hm:(zs.length:Int)≤281474976710656):
  Calls Tryz.prog 126 #[v,.int .i64 (p:Nat),.int .i64 (n:Nat)] w fun e w'=> ∃v',e= .returned v'∧w'.ownsRow w.heap.size 5 1 v' n ((Qv n ((zs.drop p).take n)).map qp)∧Below w.heap.size w w':=by
 obtain⟨i0,hi,hz0,hz1,hz2⟩:=info_parts Qq;obtain⟨a,cap,rfl,hc1,hc2⟩:=h.slice;have HH:=hid h;obtain⟨X,hX⟩:=Ex ((zs.drop p).take n);have hXl:X.length=min n (zs.length - p):=by rw[←hX];simp
 have hXg: ∀j,j<X.length→qo X j=qo zs (p+j):=fun j hj=>by rw[←hX];exact qfV (by omega)
 have hPl:=QC (n:=n) (zs:=X) (by omega);rw[hX];have HXL:=hid hXl;have HXG:=hid hXg;have HPL:=hid hPl;clear h hX hXl hXg hPl;go_enter Tryz.func126,Tryz.ntmps126
 go_wp2_with fail
 go_loopw [7,8] (fun b i wr=> ∃j:Nat,i= .int .i64 (j:Nat)∧j≤n∧wr.ownsRow w.heap.size 5 1 b j (((Qv n X).take j).map qp)∧Below w.heap.size w wr) (fun _ i _=>n - (intOf i).toNat)
 case atStart=>exact⟨0,rfl,Nat.zero_le _,by simpa using Wo w w.heap.size 5 1,Below.refl _ _⟩
 case round=>
  obtain⟨j,rfl,hj,hown,hb⟩:=hrel;have HB:=hid hb;have HO:=hid hown;obtain⟨a1,n1,c1,rfl⟩:=qq hown;by_cases hlt:j<n
  case neg=>
   obtain rfl:j=n:=by omega
   clear hown hb;go_wp2
   go_ret
   refine⟨_,rfl,?_,HB.out⟩;have:=HO.out
   rwa[List.take_of_length_le (by rw[HPL.out];exact Nat.le_refl _)]at this
  have hps:=Jp (x:=X) hlt (by have:=HXL.out;omega);have HPS:=hid hps;clear hps hown;by_cases hin:p+j<zs.length
  case pos=>
   have hjX:j<X.length:=by have:=HXL.out;omega
   have hZ:=HPS.out;rw[if_pos hjX,HXG.out j hjX]at hZ;have HZ:=hid hZ;obtain⟨bb,of',rfl,q1,q2,q3,q4⟩:=JZ HH.out hb hin;have hpj:(p:Int)+j<zs.length:=by omega
   have hpj2:0≤(p:Int)+j∧(p:Int)+j<9223372036854775808:=by omega
   obtain⟨hpj3,hpj4⟩:=hpj2;generalize qo zs (p+j)=z at*;clear hb hZ HPS;go_wp2_with (at_builtin;refine wpList_append_own _ rfl _ _ 24 rfl w.heap.size 5 i0 (.int .u8 0) 1 1 Tryz.underlying24 hi hz0 hz1 hz2 rfl (by decide) _ _ _ rfl (HO.out.alloc _) ⟨wr.heap.size,0,none⟩ 1 1 [.int .u8 z] rfl rfl (cell_one_new _ _ _) (by simp[Value.oneCell']) (by unfold maxLen;omega) (by omega) (by simp;have:=HB.out.size;omega) ?_;intro v' w6 hown' hgrow _;have hb3:Below w.heap.size w w6:=(HB.out.alloc HB.out.size _).grown hgrow (by simp;have:=HB.out.size;omega) (fun k e=>(HO.out.lt k e).1))
   refine⟨⟨j+1,rfl,by omega,by rw[HZ.out,List.map_append];exact hown',hb3⟩,by simp[intOf];omega⟩
  have hZ:=HPS.out;rw[if_neg (by have:=HXL.out;omega)]at hZ;have HZ:=hid hZ;have hpj: ¬((p:Int)+j<zs.length):=by omega
  clear hb hZ HPS;go_wp2_with (at_builtin;refine wpList_append_own _ rfl _ _ 24 rfl w.heap.size 5 i0 (.int .u8 0) 1 1 Tryz.underlying24 hi hz0 hz1 hz2 rfl (by decide) _ _ _ rfl (HO.out.alloc _) ⟨wr.heap.size,0,none⟩ 1 1 [.int .u8 0] rfl rfl (cell_one_new _ _ _) (by simp[Value.oneCell']) (by unfold maxLen;omega) (by omega) (by simp;have:=HB.out.size;omega) ?_;intro v' w6 hown' hgrow _;have hb3:Below w.heap.size w w6:=(HB.out.alloc HB.out.size _).grown hgrow (by simp;have:=HB.out.size;omega) (fun k e=>(HO.out.lt k e).1))
  refine⟨⟨j+1,rfl,by omega,by rw[HZ.out,List.map_append];exact hown',hb3⟩,by simp[intOf];omega⟩
theorem qdB (big:Bool)(zs:List Int)(v:Value)(w:World)(h:Hold w v zs)(hk:zs.length≤mB big):
  Calls Tryz.prog 121 #[.int .i64 (kB big),v] w fun e w'=> ∃v',e= .returned v'∧w'.ownsRow w.heap.size 5 1 v' (yk (bB big) zs).length ((yk (bB big) zs).map qp)∧Below w.heap.size w w':=by
 obtain⟨i0,hi,hz0,hz1,hz2⟩:=info_parts Qq;obtain⟨a,cap,rfl,hc1,hc2⟩:=h.slice;have hMB:mB big≤bB big∧bB big≤128:=by cases big<;>decide
 obtain⟨n,hn⟩:=Ex (bB big);have hBK:=hid (fun(W:World)=>YN big W);rw[hn]at hBK hMB⊢;have HH:=hid h;have HMB:=hid hMB;by_cases h0:zs.length=0
 case pos=>
  have e:yk n zs=[]:=by unfold yk;rw[if_pos h0]
  rw[e];obtain rfl:zs=[]:=List.eq_nil_of_length_eq_zero h0;clear hMB h hn hk;go_enter Tryz.func121,Tryz.ntmps121
  go_wp2
  go_ret
  exact⟨_,rfl,Wo _ _ _ _,Below.refl _ _⟩
 have e:yk n zs=Qv n zs:=by unfold yk;rw[if_neg h0]
 have hPl:=QC (n:=n) (zs:=zs) (by omega);rw[e,hPl];have HPL:=hid hPl;have hz1':0<zs.length:=by omega
 have hq0:((zs.length:Int)==0)=false:=beq_eq_false_iff_ne.2 (by omega);have hzl:(zs.length:Int)≤128:=by omega
 have hnl:(n:Int)≤128:=by omega
 have HK:=hid hk;clear h hPl e h0 hMB hn hk;go_enter Tryz.func121,Tryz.ntmps121
 go_wp2_with fail
 go_loopw [5,6] (fun b i wr=> ∃j:Nat,i= .int .i64 (j:Nat)∧j≤n∧wr.ownsRow w.heap.size 5 1 b j (((Qv n zs).take j).map qp)∧Below w.heap.size w wr) (fun _ i _=>n - (intOf i).toNat)
 case atStart=>exact⟨0,rfl,Nat.zero_le _,by simpa using Wo w w.heap.size 5 1,Below.refl _ _⟩
 case round=>
  obtain⟨j,rfl,hj,hown,hb⟩:=hrel;have HB:=hid hb;have HO:=hid hown;obtain⟨a1,n1,c1,rfl⟩:=qq hown;by_cases hlt:j<n
  case neg=>
   obtain rfl:j=n:=by omega
   clear hown hb;go_wp2_with fail
   refine(hBK.out _).mono ?_;rintro e w4 ⟨rfl,hw⟩;rw[hw];clear hw;go_wp2
   go_ret
   refine⟨_,rfl,?_,HB.out⟩;have:=HO.out
   rwa[List.take_of_length_le (by rw[HPL.out];exact Nat.le_refl _)]at this
  have hps:=Jp (x:=zs) hlt (by have:=HMB.out;have:=HK.out;omega);have HPS:=hid hps;have hjn:(j:Int)<n:=by omega
  clear hps hown;by_cases hin:j<zs.length
  case pos=>
   have hZ:=HPS.out;rw[if_pos hin]at hZ;have HZ:=hid hZ;obtain⟨bb,of',rfl,q1,q2,q3,q4⟩:=JZ HH.out hb hin;have hpj:(j:Int)<zs.length:=by omega
   generalize qo zs j=z at*;clear hb hZ HPS;go_wp2_with fail
   refine(hBK.out _).mono ?_;rintro e w4 ⟨rfl,hw⟩;rw[hw];clear hw;go_wp2_with (at_builtin;refine wpList_append_own _ rfl _ _ 24 rfl w.heap.size 5 i0 (.int .u8 0) 1 1 Tryz.underlying24 hi hz0 hz1 hz2 rfl (by decide) _ _ _ rfl (HO.out.alloc _) ⟨wr.heap.size,0,none⟩ 1 1 [.int .u8 z] rfl rfl (cell_one_new _ _ _) (by simp[Value.oneCell']) (by unfold maxLen;omega) (by omega) (by simp;have:=HB.out.size;omega) ?_;intro v' w6 hown' hgrow _;have hb3:Below w.heap.size w w6:=(HB.out.alloc HB.out.size _).grown hgrow (by simp;have:=HB.out.size;omega) (fun k e=>(HO.out.lt k e).1))
   refine⟨⟨j+1,rfl,by omega,by rw[HZ.out,List.map_append];exact hown',hb3⟩,by simp[intOf];omega⟩
  have hZ:=HPS.out;rw[if_neg hin]at hZ;have HZ:=hid hZ;have hpj: ¬((j:Int)<zs.length):=by omega
  clear hb hZ HPS;go_wp2_with fail
  refine(hBK.out _).mono ?_;rintro e w4 ⟨rfl,hw⟩;rw[hw];clear hw;go_wp2_with (at_builtin;refine wpList_append_own _ rfl _ _ 24 rfl w.heap.size 5 i0 (.int .u8 0) 1 1 Tryz.underlying24 hi hz0 hz1 hz2 rfl (by decide) _ _ _ rfl (HO.out.alloc _) ⟨wr.heap.size,0,none⟩ 1 1 [.int .u8 0] rfl rfl (cell_one_new _ _ _) (by simp[Value.oneCell']) (by unfold maxLen;omega) (by omega) (by simp;have:=HB.out.size;omega) ?_;intro v' w6 hown' hgrow _;have hb3:Below w.heap.size w w6:=(HB.out.alloc HB.out.size _).grown hgrow (by simp;have:=HB.out.size;omega) (fun k e=>(HO.out.lt k e).1))
  refine⟨⟨j+1,rfl,by omega,by rw[HZ.out,List.map_append];exact hown',hb3⟩,by simp[intOf];omega⟩
def qF (h:List Int):List Int:=h++List.replicate 8 0
theorem qW {N:Nat}(hN:N≤64){h:List Int}(hh:Words N 8 h):Words 64 16 (qF h):=by
 refine⟨by simp[qF,hh.1],fun z hz=>?_⟩;rcases List.mem_append.1 hz with hz|hz
 ·have:=hh.2 z hz
  have h2:(2:Int)^N≤2^64:=by exact_mod_cast Nat.pow_le_pow_right (by omega) hN
  omega
 ·rw[List.eq_of_mem_replicate hz];decide
theorem qaE {h:List Int}(hh:h.length=8){j:Nat}(hj:j<8):wd (qF h) j=wd h j:=by
 unfold wd qF;simp[Lg,List.getElem?_append_left (show j<h.length by omega)]
def Qn (h b:List Int)(j:Nat):List Int:=h.take j++b.drop j
theorem Y8 {h b:List Int}{j:Nat}(hj:j<h.length)(hb:j<b.length):(Qn h b j).set j (wd h j)=Qn h b (j+1):=by
 have e1:h.take (j+1)=h.take j++[wd h j]:=by
  rw[List.take_succ_eq_append_getElem hj];simp[wd,Lg,hj]
 have e2:b.drop j=b[j]::b.drop (j+1):=List.drop_eq_getElem_cons hb;have e3:(h.take j).length=j:=by simp;omega
 unfold Qn;rw[e1,e2,List.set_append_right _ _ (by omega),e3,Nat.sub_self,List.set_cons_zero];simp
theorem yM {h b:List Int}{j:Nat}(hj:j≤h.length)(hb:j≤b.length):(Qn h b j).length=b.length:=by simp[Qn];omega
theorem yY {k:IntKind}{L:List Int}{j:Nat}(hj:j<L.length):(qh k L)[j]? =some (.int k (wd L j)):=by
 simp[qh,wd,Lg,hj]
theorem Holds8.mono_below' {w w':World}{v:Value}{zs:List Int}{B:Nat}(h:Holds8 w v zs)(hb:Below B w w')(hB:w.heap.size≤B):Holds8 w' v zs:=Qg h (hb.mono hB)
def Z8:List Int:=List.replicate 8 0
theorem Jw {R h:List Int}(hR:R.length=8)(hh:h.length=8):Qn R (qF h) 8=qF R:=by
 unfold Qn qF;rw[List.take_of_length_le (by omega),List.drop_append_of_le_length (by omega),List.drop_of_length_le (by omega),List.nil_append]
theorem qa2 (h bs:List Int)(hh:Words 64 8 h)(v:Value)(lo:Nat)(hlo:(lo:Int)<9223372036854775808)(last node:Bool)(w:World)(hH:Holds8 w v bs)(hz: ∀z∈bs,0≤z∧z≤255)(hl:bs.length=128):
  Calls Tryz.prog 125 #[.int .i64 1,.agg (qh .u64 (qF h)),v,.int .u64 (lo:Nat),.int .u64 0,.bool last,.bool node] w fun e w'=>e= .returned (.agg (qh .u64 (qF (yq true h bs (lo:Nat) last node))))∧Below w.heap.size w w':=by
 obtain⟨b0,hb0⟩:=Ex w.heap.size;have hMw:=Q7 8 16 hz (by rw[hl]);obtain⟨M,hM⟩:=Ex (QN 8 16 bs);obtain⟨R,hR⟩:=Ex (yq true h bs (lo:Nat) last node);have hRw:Words 64 8 R:=by rw[←hR];exact QI true hh _ _ _ _
 have hR2:zF mixBig IVb 12 h M (lo:Nat) 0 last node=R:=by rw[←hR,←hM];rfl
 rw[hR];rw[hM]at hMw;have hS16:=qW (by decide) hh;have hwd: ∀j,j<8→wd (qF h) j=wd h j:=fun j hj=>qaE hh.1 hj
 have HM_:=hid hM;have HR2_:=hid hR2;have HL_:=hid hl;have HLO_:=hid hlo;have HMW_:=hid hMw;have HRW_:=hid hRw;have HH_:=hid hh;have HS16_:=hid hS16;have HWD_:=hid hwd;have HZ_:=hid hz;have HHB_:=hid hH;clear hM hR hR2 hl hlo hMw hRw hwd hS16 hz hH hh;go_enter Tryz.func125,Tryz.ntmps125
 go_wp2_with fail
 have hs3:(((w.alloc (.cells (qh .u64 (qF h)) 166)).alloc (.cells #[.int .u64 0,.int .u64 0,.int .u64 0,.int .u64 0,.int .u64 0,.int .u64 0,.int .u64 0,.int .u64 0,.int .u64 0,.int .u64 0,.int .u64 0,.int .u64 0,.int .u64 0,.int .u64 0,.int .u64 0,.int .u64 0] 166)).alloc (.cells (qh .u64 Z8) 177)).heap.size=b0+3:=by simp[hb0]
 have r0:(((w.alloc (.cells (qh .u64 (qF h)) 166)).alloc (.cells #[.int .u64 0,.int .u64 0,.int .u64 0,.int .u64 0,.int .u64 0,.int .u64 0,.int .u64 0,.int .u64 0,.int .u64 0,.int .u64 0,.int .u64 0,.int .u64 0,.int .u64 0,.int .u64 0,.int .u64 0,.int .u64 0] 166)).alloc (.cells (qh .u64 Z8) 177)).heap[b0]? =some (.cells (qh .u64 (qF h)) 166 (0,0)):=by
  rw[Bh _ _ _ (by simp[hb0];omega),Bh _ _ _ (by simp[hb0]),←hb0];exact Wn _ _
 have r1:(((w.alloc (.cells (qh .u64 (qF h)) 166)).alloc (.cells #[.int .u64 0,.int .u64 0,.int .u64 0,.int .u64 0,.int .u64 0,.int .u64 0,.int .u64 0,.int .u64 0,.int .u64 0,.int .u64 0,.int .u64 0,.int .u64 0,.int .u64 0,.int .u64 0,.int .u64 0,.int .u64 0] 166)).alloc (.cells (qh .u64 Z8) 177)).heap[b0+1]? =some (.cells #[.int .u64 0,.int .u64 0,.int .u64 0,.int .u64 0,.int .u64 0,.int .u64 0,.int .u64 0,.int .u64 0,.int .u64 0,.int .u64 0,.int .u64 0,.int .u64 0,.int .u64 0,.int .u64 0,.int .u64 0,.int .u64 0] 166 (0,0)):=by
  rw[Bh _ _ _ (by simp[hb0]),show b0+1=(w.alloc (.cells (qh .u64 (qF h)) 166)).heap.size by simp[hb0]];exact Wn _ _
 have r2:(((w.alloc (.cells (qh .u64 (qF h)) 166)).alloc (.cells #[.int .u64 0,.int .u64 0,.int .u64 0,.int .u64 0,.int .u64 0,.int .u64 0,.int .u64 0,.int .u64 0,.int .u64 0,.int .u64 0,.int .u64 0,.int .u64 0,.int .u64 0,.int .u64 0,.int .u64 0,.int .u64 0] 166)).alloc (.cells (qh .u64 Z8) 177)).heap[b0+1+1]? =some (.cells (qh .u64 (Qn h Z8 0)) 177 (0,0)):=by
  rw[show b0+1+1=((w.alloc (.cells (qh .u64 (qF h)) 166)).alloc (.cells #[.int .u64 0,.int .u64 0,.int .u64 0,.int .u64 0,.int .u64 0,.int .u64 0,.int .u64 0,.int .u64 0,.int .u64 0,.int .u64 0,.int .u64 0,.int .u64 0,.int .u64 0,.int .u64 0,.int .u64 0,.int .u64 0] 166)).heap.size by simp[hb0]];exact Wn _ _
 have hb3:Below b0 w (((w.alloc (.cells (qh .u64 (qF h)) 166)).alloc (.cells #[.int .u64 0,.int .u64 0,.int .u64 0,.int .u64 0,.int .u64 0,.int .u64 0,.int .u64 0,.int .u64 0,.int .u64 0,.int .u64 0,.int .u64 0,.int .u64 0,.int .u64 0,.int .u64 0,.int .u64 0,.int .u64 0] 166)).alloc (.cells (qh .u64 Z8) 177)):=by rw[←hb0];exact((Br.alloc Nl _).alloc (by simp) _).alloc (by simp;omega) _
 change Code.wp _ _ _ _ (((w.alloc (.cells (qh .u64 (qF h)) 166)).alloc (.cells #[.int .u64 0,.int .u64 0,.int .u64 0,.int .u64 0,.int .u64 0,.int .u64 0,.int .u64 0,.int .u64 0,.int .u64 0,.int .u64 0,.int .u64 0,.int .u64 0,.int .u64 0,.int .u64 0,.int .u64 0,.int .u64 0] 166)).alloc (.cells (qh .u64 Z8) 177))
 generalize (((w.alloc (.cells (qh .u64 (qF h)) 166)).alloc (.cells #[.int .u64 0,.int .u64 0,.int .u64 0,.int .u64 0,.int .u64 0,.int .u64 0,.int .u64 0,.int .u64 0,.int .u64 0,.int .u64 0,.int .u64 0,.int .u64 0,.int .u64 0,.int .u64 0,.int .u64 0,.int .u64 0] 166)).alloc (.cells (qh .u64 Z8) 177))=W3 at*;have R0:=hid r0;have R1:=hid r1;have R2:=hid r2;have HB3:=hid hb3;clear r0 r1 r2 hb3;go_loopw [16] (fun i wr=> ∃j:Nat,i= .int .i64 (j:Nat)∧j≤8∧wr.heap[b0+1+1]? =some (.cells (qh .u64 (Qn h Z8 j)) 177 (0,0))∧But (b0+1+1) W3 wr) (fun i _=>8 - (intOf i).toNat)
 case atStart=>exact⟨0,rfl,by omega,R2.out,But.refl _ _⟩
 case round=>
  obtain⟨j,rfl,hj,hrow,hb⟩:=hrel;have HROW:=hid hrow;have HB:=hid hb;have hwrs:b0+3≤wr.heap.size:=by have:=hb.size;omega
  by_cases hlt:j<8
  case pos=>
   have c0:wr.cell? ⟨b0,j,none⟩=some (.int .u64 (wd h j)):=by
    rw[qa ((hb.block b0 (by omega) (by omega)).trans R0.out) j,yY (by rw[HS16_.out.1];omega),HWD_.out j hlt]
   have hfl:(Qn h Z8 j).length=8:=yM (by rw[HH_.out.1];omega) (by show j≤8;omega);have c1:wr.cell? ⟨b0+1+1,j,none⟩=some (.int .u64 (wd (Qn h Z8 j) j)):=by rw[qa hrow j,yY (by omega)]
   have f1:=frozen_of_row wr (b0+1+1) j _ _ hrow;have hst:=heap_setCell_same wr (b0+1+1) j _ _ (.int .u64 (wd h j)) hrow;rw[qZ,Y8 (by rw[HH_.out.1];omega) (by show j<8;omega)]at hst;have hbd:=ym HH_.out hlt;have HST:=hid hst;have hjj:(j:Int)<8:=by omega
   generalize wd (Qn h Z8 j) j=zo at c1;generalize wd h j=zj at*;obtain⟨hbd1,hbd2⟩:=hbd;clear hst hfl hrow hb;go_wp2
   exact⟨⟨j+1,rfl,by omega,HST.out,HB.out.set _ _⟩,by simp[intOf];omega⟩
  obtain rfl:j=8:=by omega
  rw[show Qn h Z8 8=h by unfold Qn;rw[List.take_of_length_le (by rw[HH_.out.1];omega)];simp[Z8]]at HROW;have hh8:=HHB_.out.mono_below' (HB3.out.trans (hb.below (by omega) (by omega))) (by omega);have HH8:=hid hh8;clear hrow hb hh8 hj hlt;go_wp2_with fail
  refine(qbG bs v _ HH8.out HZ_.out HL_.out).mono ?_;rintro e w1 ⟨rfl,hb1⟩;rw[HM_.out];have hs1:=hb1.size;have k0:=qc ((HB.out.block b0 (by omega) (by omega)).trans R0.out) hb1;have k1:=qc ((HB.out.block (b0+1) (by omega) (by omega)).trans R1.out) hb1;have k2:=qc HROW.out hb1;have hbw:Below b0 w w1:=(HB3.out.trans (HB.out.below (by omega) (by omega))).trans (hb1.mono (by omega));have K0:=hid k0;have K1:=hid k1;have K2:=hid k2;have HBW:=hid hbw;clear k0 k1 k2 hbw hb1 HB HROW R0 R1 R2 HB3 HH8;go_upto_region 8 with((with_reducible show wpList _ _ _ (Oper.mk none (Op.store 166 _ _) _ _ _ _::_) _ _);refine wpList_store_row rfl 166 _ _ rfl w1.heap.size (qh .u64 M) rfl rfl 166 _ (Wn _ _) (by rw[qe,HMW_.out.1];kernel_rfl) (by rw[qe,HMW_.out.1];rfl) qv ?_)
  refine qj ?_;intro W hW;obtain⟨bv,hbv⟩:=Ex w1.heap.size;have g0:W.heap[b0]? =some (.cells (qh .u64 (qF h)) 166 (0,0)):=by rw[hW];exact(setRow_other (w1.alloc _) _ _ _ (by omega)).trans ((Bh _ _ _ (by omega)).trans K0.out)
  have g1:W.heap[b0+1]? =some (.cells #[.int .u64 0,.int .u64 0,.int .u64 0,.int .u64 0,.int .u64 0,.int .u64 0,.int .u64 0,.int .u64 0,.int .u64 0,.int .u64 0,.int .u64 0,.int .u64 0,.int .u64 0,.int .u64 0,.int .u64 0,.int .u64 0] 166 (0,0)):=by rw[hW];exact(setRow_other (w1.alloc _) _ _ _ (by omega)).trans ((Bh _ _ _ (by omega)).trans K1.out)
  have g2:W.heap[b0+1+1]? =some (.cells (qh .u64 h) 177 (0,0)):=by rw[hW];exact(setRow_other (w1.alloc _) _ _ _ (by omega)).trans ((Bh _ _ _ (by omega)).trans K2.out)
  have g3:W.heap[bv]? =some (.cells (qh .u64 M) 166 (0,0)):=by rw[hW,←hbv];exact setRow_heap _ _ _ _ _ _ (Wn _ _)
  have hB2:Below b0 w W:=by rw[hW];exact below_setRow (HBW.out.alloc (by omega) _) (by omega) _
  rw[hbv];have hbvb:b0+3≤bv:=by omega
  clear hW hbv K0 K1 K2 HBW hs1 hwrs;go_wp2_with (first|((with_reducible show wpList _ _ _ (Oper.mk (some 41) _ _ _ _ _::_) _ _);refine wpList_load_row rfl 177 _ rfl (b0+1+1) rfl _ _ _ _ g2 Tryz.underlying177 rfl (by rw[qe,HH_.out.1];kernel_rfl) ?_)|((with_reducible show wpList _ _ _ (Oper.mk (some 42) _ _ _ _ _::_) _ _);refine wpList_load_row rfl 166 _ rfl bv rfl _ _ _ _ g3 Tryz.underlying166 rfl (by rw[qe,HMW_.out.1];kernel_rfl) ?_))
  refine(qie h M HH_.out HMW_.out (lo:Nat) 0 last node _).mono ?_;rintro e w2 ⟨rfl,hb2⟩;rw[HR2_.out];have hs2:=hb2.size;have hWs:=(Ai g3).1;have j0:=qc g0 hb2;have j1:=qc g1 hb2;have j2:=qc g2 hb2;have hB3:Below b0 w w2:=hB2.trans (hb2.mono (by omega));clear g0 g1 g2 g3 hB2 hb2;go_upto_region 9 with((with_reducible show wpList _ _ _ (Oper.mk none (Op.store 177 _ _) _ _ _ _::_) _ _);refine wpList_store_row rfl 177 _ _ rfl (b0+1+1) (qh .u64 R) rfl rfl 177 _ j2 (by rw[qe,HRW_.out.1];kernel_rfl) (by rw[qe,qe,HRW_.out.1,HH_.out.1]) qv ?_)
  refine qj ?_;intro W7 hW7;have m0:W7.heap[b0]? =some (.cells (qh .u64 (Qn R (qF h) 0)) 166 (0,0)):=by rw[hW7];exact(setRow_other w2 _ _ _ (by omega)).trans j0
  have m1:W7.heap[b0+1]? =some (.cells #[.int .u64 0,.int .u64 0,.int .u64 0,.int .u64 0,.int .u64 0,.int .u64 0,.int .u64 0,.int .u64 0,.int .u64 0,.int .u64 0,.int .u64 0,.int .u64 0,.int .u64 0,.int .u64 0,.int .u64 0,.int .u64 0] 166 (0,0)):=by rw[hW7];exact(setRow_other w2 _ _ _ (by omega)).trans j1
  have m2:W7.heap[b0+1+1]? =some (.cells (qh .u64 R) 177 (0,0)):=by rw[hW7];exact setRow_heap _ _ _ _ _ _ j2
  have hB7:Below b0 w W7:=by rw[hW7];exact below_setRow hB3 (by omega) _
  have hs7:b0+3≤W7.heap.size:=by rw[hW7,setRow_size];omega
  have M0:=hid m0;have M1:=hid m1;have M2:=hid m2;have HB7:=hid hB7;clear hW7 m0 m1 m2 hB7 j0 j1 j2 hB3 hs2 hWs hbvb;go_wp2_with fail
  go_loopw [19] (fun i wr=> ∃j:Nat,i= .int .i64 (j:Nat)∧j≤8∧wr.heap[b0]? =some (.cells (qh .u64 (Qn R (qF h) j)) 166 (0,0))∧But b0 W7 wr) (fun i _=>8 - (intOf i).toNat)
  case atStart=>exact⟨0,rfl,by omega,M0.out,But.refl _ _⟩
  case round=>
   obtain⟨j,rfl,hj,hrow,hb⟩:=hrel;have HROW:=hid hrow;have HB:=hid hb;have hwrs:b0+3≤wr.heap.size:=by have:=hb.size;omega
   have h16:(qF h).length=16:=HS16_.out.1;by_cases hlt:j<8
   case pos=>
    have c0:wr.cell? ⟨b0+1+1,j,none⟩=some (.int .u64 (wd R j)):=by rw[qa ((hb.block (b0+1+1) (by omega) (by omega)).trans M2.out) j,yY (by rw[HRW_.out.1];omega)]
    have hfl:(Qn R (qF h) j).length=16:=by rw[yM (by rw[HRW_.out.1];omega) (by omega),h16]
    have c1:wr.cell? ⟨b0,j,none⟩=some (.int .u64 (wd (Qn R (qF h) j) j)):=by rw[qa hrow j,yY (by omega)]
    have f1:=frozen_of_row wr b0 j _ _ hrow;have hst:=heap_setCell_same wr b0 j _ _ (.int .u64 (wd R j)) hrow;rw[qZ,Y8 (by rw[HRW_.out.1];omega) (by omega)]at hst;have hbd:=ym HRW_.out hlt;have HST:=hid hst;have hjj:(j:Int)<8:=by omega
    generalize wd (Qn R (qF h) j) j=zo at c1;generalize wd R j=zj at*;obtain⟨hbd1,hbd2⟩:=hbd;clear hst hfl hrow hb h16;go_wp2
    exact⟨⟨j+1,rfl,by omega,HST.out,HB.out.set _ _⟩,by simp[intOf];omega⟩
   obtain rfl:j=8:=by omega
   rw[Jw HRW_.out.1 HH_.out.1]at hrow;have n1:=(hb.block (b0+1) (by omega) (by omega)).trans M1.out;have hb9:Below b0 w wr:=HB7.out.trans (hb.below Nl (by omega));have hR16:=qW (by decide) HRW_.out;clear hb h16 hj hlt HROW;go_wp2_with (first|((with_reducible show wpList _ _ _ (Oper.mk (some 57) _ _ _ _ _::_) _ _);refine wpList_load_row rfl 166 _ rfl b0 rfl _ _ _ _ hrow Tryz.underlying166 rfl (by rw[qe,hR16.1];kernel_rfl) ?_)|((with_reducible show wpList _ _ _ (Oper.mk none (Op.store 166 _ _) _ _ _ _::_) _ _);refine wpList_store_row rfl 166 _ _ rfl (b0+1) (qh .u64 (qF R)) rfl rfl 166 _ n1 (by rw[qe,hR16.1];kernel_rfl) (by rw[qe,hR16.1];rfl) qv ?_))
   exact Bp (results_cell_row rfl _ _ (b0+1) 166 _ _ _ rfl (setRow_heap _ _ _ _ _ _ n1) Tryz.underlying166 rfl (by rw[qe,hR16.1];kernel_rfl)) rfl ⟨rfl,by rw[hb0];exact below_setRow hb9 (by omega) _⟩
theorem qaf (h bs:List Int)(hh:Words 32 8 h)(v:Value)(lo:Nat)(hlo:(lo:Int)<9223372036854775808)(last node:Bool)(w:World)(hH:Holds8 w v bs)(hz: ∀z∈bs,0≤z∧z≤255)(hl:bs.length=64):
  Calls Tryz.prog 125 #[.int .i64 2,.agg (qh .u64 (qF h)),v,.int .u64 (lo:Nat),.int .u64 0,.bool last,.bool node] w fun e w'=>e= .returned (.agg (qh .u64 (qF (yq false h bs (lo:Nat) last node))))∧Below w.heap.size w w':=by
 obtain⟨b0,hb0⟩:=Ex w.heap.size;have hMw:=Q7 4 16 hz (by rw[hl]);obtain⟨M,hM⟩:=Ex (QN 4 16 bs);obtain⟨R,hR⟩:=Ex (yq false h bs (lo:Nat) last node);have hRw:Words 32 8 R:=by rw[←hR];exact QI false hh _ _ _ _
 have hR2:zF mixSmall IVs 10 h M ((lo:Nat)%4294967296) ((lo:Nat)/4294967296) last node=R:=by rw[←hR,←hM];rfl
 rw[hR];rw[hM]at hMw;have hS16:=qW (by decide) hh;have hwd: ∀j,j<8→wd (qF h) j=wd h j:=fun j hj=>qaE hh.1 hj
 have HM_:=hid hM;have HR2_:=hid hR2;have HL_:=hid hl;have HLO_:=hid hlo;have HMW_:=hid hMw;have HRW_:=hid hRw;have HH_:=hid hh;have HS16_:=hid hS16;have HWD_:=hid hwd;have HZ_:=hid hz;have HHB_:=hid hH;clear hM hR hR2 hl hlo hMw hRw hwd hS16 hz hH hh;go_enter Tryz.func125,Tryz.ntmps125
 go_wp2_with fail
 have hs3:(((w.alloc (.cells (qh .u64 (qF h)) 166)).alloc (.cells #[.int .u64 0,.int .u64 0,.int .u64 0,.int .u64 0,.int .u64 0,.int .u64 0,.int .u64 0,.int .u64 0,.int .u64 0,.int .u64 0,.int .u64 0,.int .u64 0,.int .u64 0,.int .u64 0,.int .u64 0,.int .u64 0] 166)).alloc (.cells (qh .u32 Z8) 187)).heap.size=b0+3:=by simp[hb0]
 have r0:(((w.alloc (.cells (qh .u64 (qF h)) 166)).alloc (.cells #[.int .u64 0,.int .u64 0,.int .u64 0,.int .u64 0,.int .u64 0,.int .u64 0,.int .u64 0,.int .u64 0,.int .u64 0,.int .u64 0,.int .u64 0,.int .u64 0,.int .u64 0,.int .u64 0,.int .u64 0,.int .u64 0] 166)).alloc (.cells (qh .u32 Z8) 187)).heap[b0]? =some (.cells (qh .u64 (qF h)) 166 (0,0)):=by
  rw[Bh _ _ _ (by simp[hb0];omega),Bh _ _ _ (by simp[hb0]),←hb0];exact Wn _ _
 have r1:(((w.alloc (.cells (qh .u64 (qF h)) 166)).alloc (.cells #[.int .u64 0,.int .u64 0,.int .u64 0,.int .u64 0,.int .u64 0,.int .u64 0,.int .u64 0,.int .u64 0,.int .u64 0,.int .u64 0,.int .u64 0,.int .u64 0,.int .u64 0,.int .u64 0,.int .u64 0,.int .u64 0] 166)).alloc (.cells (qh .u32 Z8) 187)).heap[b0+1]? =some (.cells #[.int .u64 0,.int .u64 0,.int .u64 0,.int .u64 0,.int .u64 0,.int .u64 0,.int .u64 0,.int .u64 0,.int .u64 0,.int .u64 0,.int .u64 0,.int .u64 0,.int .u64 0,.int .u64 0,.int .u64 0,.int .u64 0] 166 (0,0)):=by
  rw[Bh _ _ _ (by simp[hb0]),show b0+1=(w.alloc (.cells (qh .u64 (qF h)) 166)).heap.size by simp[hb0]];exact Wn _ _
 have r2:(((w.alloc (.cells (qh .u64 (qF h)) 166)).alloc (.cells #[.int .u64 0,.int .u64 0,.int .u64 0,.int .u64 0,.int .u64 0,.int .u64 0,.int .u64 0,.int .u64 0,.int .u64 0,.int .u64 0,.int .u64 0,.int .u64 0,.int .u64 0,.int .u64 0,.int .u64 0,.int .u64 0] 166)).alloc (.cells (qh .u32 Z8) 187)).heap[b0+1+1]? =some (.cells (qh .u32 (Qn h Z8 0)) 187 (0,0)):=by
  rw[show b0+1+1=((w.alloc (.cells (qh .u64 (qF h)) 166)).alloc (.cells #[.int .u64 0,.int .u64 0,.int .u64 0,.int .u64 0,.int .u64 0,.int .u64 0,.int .u64 0,.int .u64 0,.int .u64 0,.int .u64 0,.int .u64 0,.int .u64 0,.int .u64 0,.int .u64 0,.int .u64 0,.int .u64 0] 166)).heap.size by simp[hb0]];exact Wn _ _
 have hb3:Below b0 w (((w.alloc (.cells (qh .u64 (qF h)) 166)).alloc (.cells #[.int .u64 0,.int .u64 0,.int .u64 0,.int .u64 0,.int .u64 0,.int .u64 0,.int .u64 0,.int .u64 0,.int .u64 0,.int .u64 0,.int .u64 0,.int .u64 0,.int .u64 0,.int .u64 0,.int .u64 0,.int .u64 0] 166)).alloc (.cells (qh .u32 Z8) 187)):=by rw[←hb0];exact((Br.alloc Nl _).alloc (by simp) _).alloc (by simp;omega) _
 change Code.wp _ _ _ _ (((w.alloc (.cells (qh .u64 (qF h)) 166)).alloc (.cells #[.int .u64 0,.int .u64 0,.int .u64 0,.int .u64 0,.int .u64 0,.int .u64 0,.int .u64 0,.int .u64 0,.int .u64 0,.int .u64 0,.int .u64 0,.int .u64 0,.int .u64 0,.int .u64 0,.int .u64 0,.int .u64 0] 166)).alloc (.cells (qh .u32 Z8) 187))
 generalize (((w.alloc (.cells (qh .u64 (qF h)) 166)).alloc (.cells #[.int .u64 0,.int .u64 0,.int .u64 0,.int .u64 0,.int .u64 0,.int .u64 0,.int .u64 0,.int .u64 0,.int .u64 0,.int .u64 0,.int .u64 0,.int .u64 0,.int .u64 0,.int .u64 0,.int .u64 0,.int .u64 0] 166)).alloc (.cells (qh .u32 Z8) 187))=W3 at*;have R0:=hid r0;have R1:=hid r1;have R2:=hid r2;have HB3:=hid hb3;clear r0 r1 r2 hb3;go_loopw [21] (fun i wr=> ∃j:Nat,i= .int .i64 (j:Nat)∧j≤8∧wr.heap[b0+1+1]? =some (.cells (qh .u32 (Qn h Z8 j)) 187 (0,0))∧But (b0+1+1) W3 wr) (fun i _=>8 - (intOf i).toNat)
 case atStart=>exact⟨0,rfl,by omega,R2.out,But.refl _ _⟩
 case round=>
  obtain⟨j,rfl,hj,hrow,hb⟩:=hrel;have HROW:=hid hrow;have HB:=hid hb;have hwrs:b0+3≤wr.heap.size:=by have:=hb.size;omega
  by_cases hlt:j<8
  case pos=>
   have c0:wr.cell? ⟨b0,j,none⟩=some (.int .u64 (wd h j)):=by
    rw[qa ((hb.block b0 (by omega) (by omega)).trans R0.out) j,yY (by rw[HS16_.out.1];omega),HWD_.out j hlt]
   have hfl:(Qn h Z8 j).length=8:=yM (by rw[HH_.out.1];omega) (by show j≤8;omega);have c1:wr.cell? ⟨b0+1+1,j,none⟩=some (.int .u32 (wd (Qn h Z8 j) j)):=by rw[qa hrow j,yY (by omega)]
   have f1:=frozen_of_row wr (b0+1+1) j _ _ hrow;have hst:=heap_setCell_same wr (b0+1+1) j _ _ (.int .u32 (wd h j)) hrow;rw[qZ,Y8 (by rw[HH_.out.1];omega) (by show j<8;omega)]at hst;have hbd:=ym HH_.out hlt;have hcv:IntKind.u32.wrap (wd h j)=wd h j:=by rw[IntKind.wrap_u32];exact Int.emod_eq_of_lt hbd.1 hbd.2
   have HST:=hid hst;have hjj:(j:Int)<8:=by omega
   generalize wd (Qn h Z8 j) j=zo at c1;generalize wd h j=zj at*;obtain⟨hbd1,hbd2⟩:=hbd;clear hst hfl hrow hb;go_wp2
   exact⟨⟨j+1,rfl,by omega,HST.out,HB.out.set _ _⟩,by simp[intOf];omega⟩
  obtain rfl:j=8:=by omega
  rw[show Qn h Z8 8=h by unfold Qn;rw[List.take_of_length_le (by rw[HH_.out.1];omega)];simp[Z8]]at HROW;have hh8:=HHB_.out.mono_below' (HB3.out.trans (hb.below (by omega) (by omega))) (by omega);have HH8:=hid hh8;clear hrow hb hh8 hj hlt;go_wp2_with fail
  refine(qbH bs v _ HH8.out HZ_.out HL_.out).mono ?_;rintro e w1 ⟨rfl,hb1⟩;rw[HM_.out];have hs1:=hb1.size;have k0:=qc ((HB.out.block b0 (by omega) (by omega)).trans R0.out) hb1;have k1:=qc ((HB.out.block (b0+1) (by omega) (by omega)).trans R1.out) hb1;have k2:=qc HROW.out hb1;have hbw:Below b0 w w1:=(HB3.out.trans (HB.out.below (by omega) (by omega))).trans (hb1.mono (by omega));have K0:=hid k0;have K1:=hid k1;have K2:=hid k2;have HBW:=hid hbw;clear k0 k1 k2 hbw hb1 HB HROW R0 R1 R2 HB3 HH8;go_upto_region 20 with((with_reducible show wpList _ _ _ (Oper.mk none (Op.store 222 _ _) _ _ _ _::_) _ _);refine wpList_store_row rfl 222 _ _ rfl w1.heap.size (qh .u32 M) rfl rfl 222 _ (Wn _ _) (by rw[qe,HMW_.out.1];kernel_rfl) (by rw[qe,HMW_.out.1];rfl) qv ?_)
  refine qj ?_;intro W hW;obtain⟨bv,hbv⟩:=Ex w1.heap.size;have g0:W.heap[b0]? =some (.cells (qh .u64 (qF h)) 166 (0,0)):=by rw[hW];exact(setRow_other (w1.alloc _) _ _ _ (by omega)).trans ((Bh _ _ _ (by omega)).trans K0.out)
  have g1:W.heap[b0+1]? =some (.cells #[.int .u64 0,.int .u64 0,.int .u64 0,.int .u64 0,.int .u64 0,.int .u64 0,.int .u64 0,.int .u64 0,.int .u64 0,.int .u64 0,.int .u64 0,.int .u64 0,.int .u64 0,.int .u64 0,.int .u64 0,.int .u64 0] 166 (0,0)):=by rw[hW];exact(setRow_other (w1.alloc _) _ _ _ (by omega)).trans ((Bh _ _ _ (by omega)).trans K1.out)
  have g2:W.heap[b0+1+1]? =some (.cells (qh .u32 h) 187 (0,0)):=by rw[hW];exact(setRow_other (w1.alloc _) _ _ _ (by omega)).trans ((Bh _ _ _ (by omega)).trans K2.out)
  have g3:W.heap[bv]? =some (.cells (qh .u32 M) 222 (0,0)):=by rw[hW,←hbv];exact setRow_heap _ _ _ _ _ _ (Wn _ _)
  have hB2:Below b0 w W:=by rw[hW];exact below_setRow (HBW.out.alloc (by omega) _) (by omega) _
  rw[hbv];have hbvb:b0+3≤bv:=by omega
  clear hW hbv K0 K1 K2 HBW hs1 hwrs;go_wp2_with (first|((with_reducible show wpList _ _ _ (Oper.mk (some 73) _ _ _ _ _::_) _ _);refine wpList_load_row rfl 187 _ rfl (b0+1+1) rfl _ _ _ _ g2 Tryz.underlying187 rfl (by rw[qe,HH_.out.1];kernel_rfl) ?_)|((with_reducible show wpList _ _ _ (Oper.mk (some 74) _ _ _ _ _::_) _ _);refine wpList_load_row rfl 222 _ rfl bv rfl _ _ _ _ g3 Tryz.underlying222 rfl (by rw[qe,HMW_.out.1];kernel_rfl) ?_))
  refine(qif h M HH_.out HMW_.out (lo:Nat) (by omega) (by have:=HLO_.out;omega) last node _).mono ?_;rintro e w2 ⟨rfl,hb2⟩;rw[HR2_.out];have hs2:=hb2.size;have hWs:=(Ai g3).1;have j0:=qc g0 hb2;have j1:=qc g1 hb2;have j2:=qc g2 hb2;have hB3:Below b0 w w2:=hB2.trans (hb2.mono (by omega));clear g0 g1 g2 g3 hB2 hb2;go_upto_region 21 with((with_reducible show wpList _ _ _ (Oper.mk none (Op.store 187 _ _) _ _ _ _::_) _ _);refine wpList_store_row rfl 187 _ _ rfl (b0+1+1) (qh .u32 R) rfl rfl 187 _ j2 (by rw[qe,HRW_.out.1];kernel_rfl) (by rw[qe,qe,HRW_.out.1,HH_.out.1]) qv ?_)
  refine qj ?_;intro W7 hW7;have m0:W7.heap[b0]? =some (.cells (qh .u64 (Qn R (qF h) 0)) 166 (0,0)):=by rw[hW7];exact(setRow_other w2 _ _ _ (by omega)).trans j0
  have m1:W7.heap[b0+1]? =some (.cells #[.int .u64 0,.int .u64 0,.int .u64 0,.int .u64 0,.int .u64 0,.int .u64 0,.int .u64 0,.int .u64 0,.int .u64 0,.int .u64 0,.int .u64 0,.int .u64 0,.int .u64 0,.int .u64 0,.int .u64 0,.int .u64 0] 166 (0,0)):=by rw[hW7];exact(setRow_other w2 _ _ _ (by omega)).trans j1
  have m2:W7.heap[b0+1+1]? =some (.cells (qh .u32 R) 187 (0,0)):=by rw[hW7];exact setRow_heap _ _ _ _ _ _ j2
  have hB7:Below b0 w W7:=by rw[hW7];exact below_setRow hB3 (by omega) _
  have hs7:b0+3≤W7.heap.size:=by rw[hW7,setRow_size];omega
  have M0:=hid m0;have M1:=hid m1;have M2:=hid m2;have HB7:=hid hB7;clear hW7 m0 m1 m2 hB7 j0 j1 j2 hB3 hs2 hWs hbvb;go_wp2_with fail
  go_loopw [24] (fun i wr=> ∃j:Nat,i= .int .i64 (j:Nat)∧j≤8∧wr.heap[b0]? =some (.cells (qh .u64 (Qn R (qF h) j)) 166 (0,0))∧But b0 W7 wr) (fun i _=>8 - (intOf i).toNat)
  case atStart=>exact⟨0,rfl,by omega,M0.out,But.refl _ _⟩
  case round=>
   obtain⟨j,rfl,hj,hrow,hb⟩:=hrel;have HROW:=hid hrow;have HB:=hid hb;have hwrs:b0+3≤wr.heap.size:=by have:=hb.size;omega
   have h16:(qF h).length=16:=HS16_.out.1;by_cases hlt:j<8
   case pos=>
    have c0:wr.cell? ⟨b0+1+1,j,none⟩=some (.int .u32 (wd R j)):=by rw[qa ((hb.block (b0+1+1) (by omega) (by omega)).trans M2.out) j,yY (by rw[HRW_.out.1];omega)]
    have hfl:(Qn R (qF h) j).length=16:=by rw[yM (by rw[HRW_.out.1];omega) (by omega),h16]
    have c1:wr.cell? ⟨b0,j,none⟩=some (.int .u64 (wd (Qn R (qF h) j) j)):=by rw[qa hrow j,yY (by omega)]
    have f1:=frozen_of_row wr b0 j _ _ hrow;have hst:=heap_setCell_same wr b0 j _ _ (.int .u64 (wd R j)) hrow;rw[qZ,Y8 (by rw[HRW_.out.1];omega) (by omega)]at hst;have hbd:=ym HRW_.out hlt;have hcv:IntKind.u64.wrap (wd R j)=wd R j:=u64_wrap_id _ hbd.1 (by have:=hbd.2;simp at this;omega);have HST:=hid hst;have hjj:(j:Int)<8:=by omega
    generalize wd (Qn R (qF h) j) j=zo at c1;generalize wd R j=zj at*;obtain⟨hbd1,hbd2⟩:=hbd;clear hst hfl hrow hb h16;go_wp2
    exact⟨⟨j+1,rfl,by omega,HST.out,HB.out.set _ _⟩,by simp[intOf];omega⟩
   obtain rfl:j=8:=by omega
   rw[Jw HRW_.out.1 HH_.out.1]at hrow;have n1:=(hb.block (b0+1) (by omega) (by omega)).trans M1.out;have hb9:Below b0 w wr:=HB7.out.trans (hb.below Nl (by omega));have hR16:=qW (by decide) HRW_.out;clear hb h16 hj hlt HROW;go_wp2_with (first|((with_reducible show wpList _ _ _ (Oper.mk (some 89) _ _ _ _ _::_) _ _);refine wpList_load_row rfl 166 _ rfl b0 rfl _ _ _ _ hrow Tryz.underlying166 rfl (by rw[qe,hR16.1];kernel_rfl) ?_)|((with_reducible show wpList _ _ _ (Oper.mk none (Op.store 166 _ _) _ _ _ _::_) _ _);refine wpList_store_row rfl 166 _ _ rfl (b0+1) (qh .u64 (qF R)) rfl rfl 166 _ n1 (by rw[qe,hR16.1];kernel_rfl) (by rw[qe,hR16.1];rfl) qv ?_))
   exact Bp (results_cell_row rfl _ _ (b0+1) 166 _ _ _ rfl (setRow_heap _ _ _ _ _ _ n1) Tryz.underlying166 rfl (by rw[qe,hR16.1];kernel_rfl)) rfl ⟨rfl,by rw[hb0];exact below_setRow hb9 (by omega) _⟩
def rN (kd:Int)(v:Nat→Nat)(sa pe kv:Value)(la:Bool)(mv:Value)(cnt:Int):Array Value:= #[.int .i64 kd,.int .i64 (v 1:Nat),.int .i64 (v 2:Nat),.int .i64 (v 3:Nat),.int .i64 (v 4:Nat),.int .u32 (v 5:Nat),.int .u64 (v 6:Nat),.int .u32 (v 7:Nat),.int .i64 (v 8:Nat),.int .i64 (v 9:Nat),sa,pe,kv,.bool la,.int .u64 0,.int .u64 0,.int .u64 0,.int .u64 0,.int .u64 0,.int .u64 0,.int .u64 0,.int .u64 0,.int .u64 0,.int .u64 0,.int .u64 0,.int .u64 0,.int .u64 0,.int .u64 0,.int .u64 0,.int .u64 0,.bool false,.int .u64 0,.int .u64 0,mv,.int .u64 cnt]
def yT (big:Bool)(w:World)(np:Nat)(v:Nat→Nat)(sa pe kv:Value)(la:Bool)(mv:Value)(cnt:Int):Prop:=w.heap[np]? =some (.cells (rN (kB big) v sa pe kv la mv cnt) 168 (0,0))
def qfR (v:Nat→Nat)(sa pe:Value):Array Value:= #[.int .i64 (v 1:Nat),.int .i64 (v 2:Nat),.int .i64 (v 3:Nat),.int .i64 (v 4:Nat),.int .u32 (v 5:Nat),.int .u64 (v 6:Nat),.int .u32 (v 7:Nat),.int .i64 (v 8:Nat),.int .i64 (v 9:Nat),sa,pe]
theorem qgD (kd:Int)(v:Nat→Nat)(sa pe kv:Value)(la:Bool)(mv:Value)(cnt:Int): ∀j,j<(qfR v sa pe).size→(rN kd v sa pe kv la mv cnt)[1+j]? =(qfR v sa pe)[j]? :=by
 intro j hj;have hj:j<11:=hj;rcases(show j=0∨j=1∨j=2∨j=3∨j=4∨j=5∨j=6∨j=7∨j=8∨j=9∨j=10 by omega)with rfl|rfl|rfl|rfl|rfl|rfl|rfl|rfl|rfl|rfl|rfl<;>rfl
theorem ZE {b zs:List Int}{p:Nat}(hb: ∀z∈b,0≤z∧z≤255)(hz: ∀z∈zs,0≤z∧z≤255): ∀z∈Qc b p zs,0≤z∧z≤255:=by
 intro z h;unfold Qc at h;rcases List.mem_append.1 h with h|h
 ·rcases List.mem_append.1 h with h|h
  ·exact hb z (List.mem_of_mem_take h)
  ·exact hz z h
 ·exact hb z (List.mem_of_mem_drop h)
theorem ZW (big x0:Bool)(v:Nat→Nat): ∀k,∀z∈Qt big x0 v k,0≤z∧z≤255
 | 0,z,h=>by rw[List.eq_of_mem_replicate h];omega
 | k+1,z,h=>by
  rw[Qt]at h;split at h
  ·exact ZW big x0 v k z h
  ·exact ZE (ZW big x0 v k) (jJ _ _) z h
theorem Z0 {big:Bool}{v:Nat→Nat}{z1 z2:List Int}(h1: ∀z∈z1,0≤z∧z≤255)(h2: ∀z∈z2,0≤z∧z≤255): ∀z∈QT big v z1 z2,0≤z∧z≤255:=
 ZE (ZE (ZW _ _ _ _) h1) h2
theorem qbK (v:Nat→Nat)(z1 z2:List Int)(sa pe kv mv:Value)(la:Bool)(cnt:Int)(np:Nat)(w:World)(hN:yT true w np v sa pe kv la mv cnt)(hP:ParOk true v)(h1:Hold w sa z1)(h2:Hold w pe z2)(hl1:z1.length≤16)(hl2:z2.length≤16):
  Calls Tryz.prog 143 #[.pointer (some ⟨np,0,none⟩)] w fun e w'=>e= .returned (.agg (qh .u64 (qF (h0Z true (QT true v z1 z2)))))∧Below w.heap.size w w':=by
 obtain⟨b0,hb0⟩:=Ex w.heap.size;have hnp:np<b0:=by rw[←hb0];exact(Ai hN).1
 have hEN:=fun(W:World) (hb:Below b0 w W)=>ZK v z1 z2 sa pe W hP (h1.below (hb0▸hb)) (h2.below (hb0▸hb)) hl1 hl2
 have hbz: ∀z∈QT true v z1 z2,0≤z∧z≤255:=Z0 h1.1 h2.1;have hbl:=yh (big:=true) (v:=v) hl1 hl2;generalize QT true v z1 z2=bs at*;obtain⟨H,hH0⟩:=Ex (h0Z true bs);have hHw:Words 64 8 H:=by rw[←hH0];exact QK true bs
 have hH1:yn .u64 IVb 8 bs=H:=by rw[←hH0];rfl
 rw[hH0];have hN':w.heap[np]? =some (.cells (rN 1 v sa pe kv la mv cnt) 168 (0,0)):=hN;have HEN_:=hid hEN;have HBZ_:=hid hbz;have HBL_:=hid hbl;have HH1_:=hid hH1;have HHW_:=hid hHw;have HNR:=hid hN';have c30:w.cell? ⟨np,30,none⟩=some (.bool false):=qa hN' 30;have c0n:w.cell? ⟨np,0,none⟩=some (.int .i64 1):=qa hN' 0;have hnpw:np<w.heap.size:=by omega
 clear hN hN' hEN hbz hbl hH0 hH1 hHw hP h1 h2;go_enter Tryz.func143,Tryz.ntmps143
 go_upto_region 4 with(fail)
 have hs2:((w.alloc (.cells #[.int .u64 0,.int .u64 0,.int .u64 0,.int .u64 0,.int .u64 0,.int .u64 0,.int .u64 0,.int .u64 0,.int .u64 0,.int .u64 0,.int .u64 0,.int .u64 0,.int .u64 0,.int .u64 0,.int .u64 0,.int .u64 0] 166)).alloc (.cells #[.int .u64 0,.int .u64 0,.int .u64 0,.int .u64 0,.int .u64 0,.int .u64 0,.int .u64 0,.int .u64 0,.int .u64 0,.int .u64 0,.int .u64 0,.int .u64 0,.int .u64 0,.int .u64 0,.int .u64 0,.int .u64 0] 166)).heap.size=b0+2:=by simp[hb0]
 have r0:((w.alloc (.cells #[.int .u64 0,.int .u64 0,.int .u64 0,.int .u64 0,.int .u64 0,.int .u64 0,.int .u64 0,.int .u64 0,.int .u64 0,.int .u64 0,.int .u64 0,.int .u64 0,.int .u64 0,.int .u64 0,.int .u64 0,.int .u64 0] 166)).alloc (.cells #[.int .u64 0,.int .u64 0,.int .u64 0,.int .u64 0,.int .u64 0,.int .u64 0,.int .u64 0,.int .u64 0,.int .u64 0,.int .u64 0,.int .u64 0,.int .u64 0,.int .u64 0,.int .u64 0,.int .u64 0,.int .u64 0] 166)).heap[b0]? =some (.cells #[.int .u64 0,.int .u64 0,.int .u64 0,.int .u64 0,.int .u64 0,.int .u64 0,.int .u64 0,.int .u64 0,.int .u64 0,.int .u64 0,.int .u64 0,.int .u64 0,.int .u64 0,.int .u64 0,.int .u64 0,.int .u64 0] 166 (0,0)):=by rw[Bh _ _ _ (by simp[hb0]),←hb0];exact Wn _ _
 have r1:((w.alloc (.cells #[.int .u64 0,.int .u64 0,.int .u64 0,.int .u64 0,.int .u64 0,.int .u64 0,.int .u64 0,.int .u64 0,.int .u64 0,.int .u64 0,.int .u64 0,.int .u64 0,.int .u64 0,.int .u64 0,.int .u64 0,.int .u64 0] 166)).alloc (.cells #[.int .u64 0,.int .u64 0,.int .u64 0,.int .u64 0,.int .u64 0,.int .u64 0,.int .u64 0,.int .u64 0,.int .u64 0,.int .u64 0,.int .u64 0,.int .u64 0,.int .u64 0,.int .u64 0,.int .u64 0,.int .u64 0] 166)).heap[b0+1]? =some (.cells (qh .u64 (Qn H (qF Z8) 0)) 166 (0,0)):=by rw[show b0+1=(w.alloc (.cells #[.int .u64 0,.int .u64 0,.int .u64 0,.int .u64 0,.int .u64 0,.int .u64 0,.int .u64 0,.int .u64 0,.int .u64 0,.int .u64 0,.int .u64 0,.int .u64 0,.int .u64 0,.int .u64 0,.int .u64 0,.int .u64 0] 166)).heap.size by simp[hb0]];exact Wn _ _
 have hb2:Below b0 w ((w.alloc (.cells #[.int .u64 0,.int .u64 0,.int .u64 0,.int .u64 0,.int .u64 0,.int .u64 0,.int .u64 0,.int .u64 0,.int .u64 0,.int .u64 0,.int .u64 0,.int .u64 0,.int .u64 0,.int .u64 0,.int .u64 0,.int .u64 0] 166)).alloc (.cells #[.int .u64 0,.int .u64 0,.int .u64 0,.int .u64 0,.int .u64 0,.int .u64 0,.int .u64 0,.int .u64 0,.int .u64 0,.int .u64 0,.int .u64 0,.int .u64 0,.int .u64 0,.int .u64 0,.int .u64 0,.int .u64 0] 166)):=by rw[←hb0];exact(Br.alloc Nl _).alloc (by simp) _
 generalize ((w.alloc (.cells #[.int .u64 0,.int .u64 0,.int .u64 0,.int .u64 0,.int .u64 0,.int .u64 0,.int .u64 0,.int .u64 0,.int .u64 0,.int .u64 0,.int .u64 0,.int .u64 0,.int .u64 0,.int .u64 0,.int .u64 0,.int .u64 0] 166)).alloc (.cells #[.int .u64 0,.int .u64 0,.int .u64 0,.int .u64 0,.int .u64 0,.int .u64 0,.int .u64 0,.int .u64 0,.int .u64 0,.int .u64 0,.int .u64 0,.int .u64 0,.int .u64 0,.int .u64 0,.int .u64 0,.int .u64 0] 166))=W2 at*;have hn2:W2.heap[np]? =some (.cells (rN 1 v sa pe kv la mv cnt) 168 (0,0)):=(hb2.block np hnp).trans HNR.out;have R0:=hid r0;have R1:=hid r1;have HB2:=hid hb2;have HN2:=hid hn2;clear r0 r1 hb2 hn2 c30 c0n HNR hnpw;refine qA (n:=14) (w0:=W2) (B:=W2.heap.size) [.v 21 (.pointer (some ⟨np,0,none⟩)),.v 22 (.pointer (some ⟨np,0,none⟩)),.v 23 (.pointer (some ⟨np,0,none⟩)),.v 24 (.int .i64 1),.v 25 (.pointer (some ⟨np,0,none⟩)),.v 26 (.pointer (some ⟨np,0,none⟩)),.v 27 (.pointer (some ⟨np,1,none⟩)),.v 28 (.agg (qfR v sa pe)),.p 29 (fun u W=> ∃r,u= .tuple #[r,.int .i64 0]∧W.ownsRow W2.heap.size 5 1 r 64 (bs.map qp)),.p 20 (fun u W=> ∃r,u= .tuple #[r,.int .i64 0]∧W.ownsRow W2.heap.size 5 1 r 64 (bs.map qp)),.p 30 (fun u W=>W.ownsRow W2.heap.size 5 1 u 64 (bs.map qp)),.v 31 (.int .i64 0),.p 4 (fun u W=>W.ownsRow W2.heap.size 5 1 u 64 (bs.map qp)),.v 5 (.int .i64 0)] (by exact⟨(fun _ _ _ h hb=>by obtain⟨r,e,h⟩:=h;exact⟨r,e,qf h (fun g _ hg=>hb.block g hg)⟩),(fun _ _ _ h hb=>by obtain⟨r,e,h⟩:=h;exact⟨r,e,qf h (fun g _ hg=>hb.block g hg)⟩),(fun _ _ _ h hb=>qf h (fun g _ hg=>hb.block g hg)),(fun _ _ _ h hb=>qf h (fun g _ hg=>hb.block g hg)),trivial⟩) Br.drew Nl ?_ ?_
 ·repeat' (with_reducible first|exact qx|refine qu ?_ ?_)
  all_goals try
   intro A x W hA hW hBW hdep D K hK;have a0:=hA.2 0 (by decide);conv at a0=>rhs;whnf
   simp only[QU,Q4]at D;clear hdep hA;go_simp
   exact hK _ _ BR rfl
  ·intro A x W hA hW hBW hdep _ K hK;have g23:=gv hA hdep 2 23;clear hdep hA;have g0:=qc HN2.out hW;have c0:W.cell? ⟨np,0,none⟩=some (.int .i64 1):=qa g0 0;go_simp
   exact hK _ _ BR rfl
  ·intro A x W hA hW hBW hdep _ K hK;have g27:=gv hA hdep 6 27;clear hdep hA;have g0:=qc HN2.out hW;refine qV 100 _ rfl np 1 g27 168 _ (qfR v sa pe) (0,0) _ g0 Tryz.underlying100 rfl (by kernel_rfl) (qgD _ _ _ _ _ _ _ _) (hK _ _ Br rfl)
  ·intro A x W hA hW hBW hdep _ K hK;have g24:=gv hA hdep 3 24;have g28:=gv hA hdep 7 28;clear hdep hA;go_simp
   refine(HEN_.out W (HB2.out.trans (hW.mono (by omega)))).mono ?_;rintro e w' ⟨⟨r,rfl,ho⟩,hb⟩;exact hK _ _ hb ⟨r,rfl,ownsRow_le ho hBW⟩
  ·intro A x W hA hW hBW hdep _ K hK;have g29:(fun u W=> ∃r,u= .tuple #[r,.int .i64 0]∧W.ownsRow W2.heap.size 5 1 r 64 (bs.map qp)) (x 29) W:=hdep ⟨8,.data⟩ (by simp) rfl _ rfl;have a29:A.tmps.getD 29 undef=x 29:=hA.1 29 (by decide);clear hdep hA;go_simp
   exact hK _ _ Br (a29▸g29)
  ·intro A x W hA hW hBW hdep _ K hK;have g20:(fun u W=> ∃r,u= .tuple #[r,.int .i64 0]∧W.ownsRow W2.heap.size 5 1 r 64 (bs.map qp)) (x 20) W:=hdep ⟨9,.data⟩ (by simp) rfl _ rfl;have a20:A.tmps.getD 20 undef=x 20:=hA.1 20 (by decide);clear hdep hA;obtain⟨r,er,hr⟩:=g20;rw[er]at a20;go_simp
   exact hK _ _ Br hr
  ·intro A x W hA hW hBW hdep _ K hK;have g20:(fun u W=> ∃r,u= .tuple #[r,.int .i64 0]∧W.ownsRow W2.heap.size 5 1 r 64 (bs.map qp)) (x 20) W:=hdep ⟨9,.data⟩ (by simp) rfl _ rfl;have a20:A.tmps.getD 20 undef=x 20:=hA.1 20 (by decide);clear hdep hA;obtain⟨r,er,hr⟩:=g20;rw[er]at a20;go_simp
   exact hK _ _ BR rfl
  ·intro A x W hA hW hBW hdep _ K hK;have g30:(fun u W=>W.ownsRow W2.heap.size 5 1 u 64 (bs.map qp)) (x 30) W:=hdep ⟨10,.data⟩ (by simp) rfl _ rfl;have a30:A.tmps.getD 30 undef=x 30:=hA.1 30 (by decide);clear hdep hA;go_simp
   exact hK _ _ Br (a30▸g30)
 intro x W hW hBW hall;obtain⟨e29,e20,e30,e4, -⟩:=hall;change (fun u W=> ∃r,u= .tuple #[r,.int .i64 0]∧W.ownsRow W2.heap.size 5 1 r 64 (bs.map qp)) (x 29) W at e29
 change (fun u W=> ∃r,u= .tuple #[r,.int .i64 0]∧W.ownsRow W2.heap.size 5 1 r 64 (bs.map qp)) (x 20) W at e20
 change (fun u W=>W.ownsRow W2.heap.size 5 1 u 64 (bs.map qp)) (x 30) W at e30
 change (fun u W=>W.ownsRow W2.heap.size 5 1 u 64 (bs.map qp)) (x 4) W at e4
 refine qs ?_;simp only[QD,Act.put,Ls];have hh4:=QX e4;have hb5:Below b0 w W:=HB2.out.trans (hW.mono (by omega));have g0:=qc HN2.out hW;have r0:=qc R0.out hW;have r1:=qc R1.out hW;have c0n:W.cell? ⟨np,0,none⟩=some (.int .i64 1):=qa g0 0;have hnpw:np<W.heap.size:=(Ai g0).1;have hWs:b0+2≤W.heap.size:=by have:=hW.size;omega
 have R0_:=hid r0;have R1_:=hid r1;have HB5:=hid hb5;have HH4:=hid hh4;clear e29 e20 e30 e4 hh4 hb5 g0 r0 r1 hW hBW R0 R1 HB2 HN2 hs2;go_wp2_with fail
 refine(qew bs _ _ HH4.out HBZ_.out HBL_.out).mono ?_;rintro e w1 ⟨rfl,hb1⟩;rw[HH1_.out];have hs1:=hb1.size;have k0:=qc R0_.out hb1;have k1:=qc R1_.out hb1;have hbw:Below b0 w w1:=HB5.out.trans (hb1.mono (by omega));have K0:=hid k0;have K1:=hid k1;have HBW:=hid hbw;clear k0 k1 hbw hb1 R0_ R1_ HB5 HH4 c0n hnpw;go_upto_region 7 with((with_reducible show wpList _ _ _ (Oper.mk none (Op.store 177 _ _) _ _ _ _::_) _ _);refine wpList_store_row rfl 177 _ _ rfl w1.heap.size (qh .u64 H) rfl rfl 177 _ (Wn _ _) (by rw[qe,HHW_.out.1];kernel_rfl) (by rw[qe,HHW_.out.1];rfl) qv ?_)
 refine qj ?_;intro W7 hW7;obtain⟨bv,hbv⟩:=Ex w1.heap.size;have m0:W7.heap[b0]? =some (.cells #[.int .u64 0,.int .u64 0,.int .u64 0,.int .u64 0,.int .u64 0,.int .u64 0,.int .u64 0,.int .u64 0,.int .u64 0,.int .u64 0,.int .u64 0,.int .u64 0,.int .u64 0,.int .u64 0,.int .u64 0,.int .u64 0] 166 (0,0)):=by rw[hW7];exact(setRow_other (w1.alloc _) _ _ _ (by omega)).trans ((Bh _ _ _ (by omega)).trans K0.out)
 have m1:W7.heap[b0+1]? =some (.cells (qh .u64 (Qn H (qF Z8) 0)) 166 (0,0)):=by rw[hW7];exact(setRow_other (w1.alloc _) _ _ _ (by omega)).trans ((Bh _ _ _ (by omega)).trans K1.out)
 have m2:W7.heap[bv]? =some (.cells (qh .u64 H) 177 (0,0)):=by rw[hW7,←hbv];exact setRow_heap _ _ _ _ _ _ (Wn _ _)
 have hB7:Below b0 w W7:=by rw[hW7];exact below_setRow (HBW.out.alloc (by omega) _) (by omega) _
 have hbs7:bv<W7.heap.size:=(Ai m2).1;have hbvb:b0+2≤bv:=by omega
 rw[hbv];have M0:=hid m0;have M1:=hid m1;have M2:=hid m2;have HB7:=hid hB7;clear hW7 hbv m0 m1 m2 hB7 K0 K1 HBW hs1 hWs;go_wp2_with fail
 go_loopw [8] (fun i wr=> ∃j:Nat,i= .int .i64 (j:Nat)∧j≤8∧wr.heap[b0+1]? =some (.cells (qh .u64 (Qn H (qF Z8) j)) 166 (0,0))∧But (b0+1) W7 wr) (fun i _=>8 - (intOf i).toNat)
 case atStart=>exact⟨0,rfl,by omega,M1.out,But.refl _ _⟩
 case round=>
  obtain⟨j,rfl,hj,hrow,hb⟩:=hrel;have HROW:=hid hrow;have HB:=hid hb;have hwrs:bv<wr.heap.size:=by have:=hb.size;omega
  have h16:(qF Z8).length=16:=rfl;by_cases hlt:j<8
  case pos=>
   have c0:wr.cell? ⟨bv,j,none⟩=some (.int .u64 (wd H j)):=by rw[qa ((hb.block bv (by omega) (by omega)).trans M2.out) j,yY (by rw[HHW_.out.1];omega)]
   have hfl:(Qn H (qF Z8) j).length=16:=by rw[yM (by rw[HHW_.out.1];omega) (by omega),h16]
   have c1:wr.cell? ⟨b0+1,j,none⟩=some (.int .u64 (wd (Qn H (qF Z8) j) j)):=by rw[qa hrow j,yY (by omega)]
   have f1:=frozen_of_row wr (b0+1) j _ _ hrow;have hst:=heap_setCell_same wr (b0+1) j _ _ (.int .u64 (wd H j)) hrow;rw[qZ,Y8 (by rw[HHW_.out.1];omega) (by omega)]at hst;have hbd:=ym HHW_.out hlt;have HST:=hid hst;have hjj:(j:Int)<8:=by omega
   generalize wd (Qn H (qF Z8) j) j=zo at c1;generalize wd H j=zj at*;obtain⟨hbd1,hbd2⟩:=hbd;clear hst hfl hrow hb h16;go_wp2
   exact⟨⟨j+1,rfl,by omega,HST.out,HB.out.set _ _⟩,by simp[intOf];omega⟩
  obtain rfl:j=8:=by omega
  rw[Jw HHW_.out.1 rfl]at hrow;have n1:=(hb.block b0 (by omega) (by omega)).trans M0.out;have hb9:Below b0 w wr:=HB7.out.trans (hb.below (by omega) (by omega));have hR16:=qW (by decide) HHW_.out;have hwr1:b0+1<wr.heap.size:=by omega
  clear hb h16 hj hlt HROW;go_wp2_with (first|((with_reducible show wpList _ _ _ (Oper.mk (some 51) _ _ _ _ _::_) _ _);refine wpList_load_row rfl 166 _ rfl (b0+1) rfl _ _ _ _ hrow Tryz.underlying166 rfl (by rw[qe,hR16.1];kernel_rfl) ?_)|((with_reducible show wpList _ _ _ (Oper.mk none (Op.store 166 _ _) _ _ _ _::_) _ _);refine wpList_store_row rfl 166 _ _ rfl b0 (qh .u64 (qF H)) rfl rfl 166 _ n1 (by rw[qe,hR16.1];kernel_rfl) (by rw[qe,hR16.1];rfl) qv ?_))
  exact Bp (results_cell_row rfl _ _ b0 166 _ _ _ rfl (setRow_heap _ _ _ _ _ _ n1) Tryz.underlying166 rfl (by rw[qe,hR16.1];kernel_rfl)) rfl ⟨rfl,by rw[hb0];exact below_setRow hb9 Nl _⟩
theorem qa5 (v:Nat→Nat)(z1 z2:List Int)(sa pe kv mv:Value)(la:Bool)(cnt:Int)(np:Nat)(w:World)(hN:yT false w np v sa pe kv la mv cnt)(hP:ParOk false v)(h1:Hold w sa z1)(h2:Hold w pe z2)(hl1:z1.length≤8)(hl2:z2.length≤8):
  Calls Tryz.prog 143 #[.pointer (some ⟨np,0,none⟩)] w fun e w'=>e= .returned (.agg (qh .u64 (qF (h0Z false (QT false v z1 z2)))))∧Below w.heap.size w w':=by
 obtain⟨b0,hb0⟩:=Ex w.heap.size;have hnp:np<b0:=by rw[←hb0];exact(Ai hN).1
 have hEN:=fun(W:World) (hb:Below b0 w W)=>Zn v z1 z2 sa pe W hP (h1.below (hb0▸hb)) (h2.below (hb0▸hb)) hl1 hl2
 have hbz: ∀z∈QT false v z1 z2,0≤z∧z≤255:=Z0 h1.1 h2.1;have hbl:=yh (big:=false) (v:=v) hl1 hl2;generalize QT false v z1 z2=bs at*;obtain⟨H,hH0⟩:=Ex (h0Z false bs);have hHw:Words 32 8 H:=by rw[←hH0];exact QK false bs
 have hH1:yn .u32 IVs 4 bs=H:=by rw[←hH0];rfl
 rw[hH0];have hN':w.heap[np]? =some (.cells (rN 2 v sa pe kv la mv cnt) 168 (0,0)):=hN;have HEN_:=hid hEN;have HBZ_:=hid hbz;have HBL_:=hid hbl;have HH1_:=hid hH1;have HHW_:=hid hHw;have HNR:=hid hN';have c30:w.cell? ⟨np,30,none⟩=some (.bool false):=qa hN' 30;have c0n:w.cell? ⟨np,0,none⟩=some (.int .i64 2):=qa hN' 0;have hnpw:np<w.heap.size:=by omega
 clear hN hN' hEN hbz hbl hH0 hH1 hHw hP h1 h2;go_enter Tryz.func143,Tryz.ntmps143
 go_upto_region 4 with(fail)
 have hs2:((w.alloc (.cells #[.int .u64 0,.int .u64 0,.int .u64 0,.int .u64 0,.int .u64 0,.int .u64 0,.int .u64 0,.int .u64 0,.int .u64 0,.int .u64 0,.int .u64 0,.int .u64 0,.int .u64 0,.int .u64 0,.int .u64 0,.int .u64 0] 166)).alloc (.cells #[.int .u64 0,.int .u64 0,.int .u64 0,.int .u64 0,.int .u64 0,.int .u64 0,.int .u64 0,.int .u64 0,.int .u64 0,.int .u64 0,.int .u64 0,.int .u64 0,.int .u64 0,.int .u64 0,.int .u64 0,.int .u64 0] 166)).heap.size=b0+2:=by simp[hb0]
 have r0:((w.alloc (.cells #[.int .u64 0,.int .u64 0,.int .u64 0,.int .u64 0,.int .u64 0,.int .u64 0,.int .u64 0,.int .u64 0,.int .u64 0,.int .u64 0,.int .u64 0,.int .u64 0,.int .u64 0,.int .u64 0,.int .u64 0,.int .u64 0] 166)).alloc (.cells #[.int .u64 0,.int .u64 0,.int .u64 0,.int .u64 0,.int .u64 0,.int .u64 0,.int .u64 0,.int .u64 0,.int .u64 0,.int .u64 0,.int .u64 0,.int .u64 0,.int .u64 0,.int .u64 0,.int .u64 0,.int .u64 0] 166)).heap[b0]? =some (.cells #[.int .u64 0,.int .u64 0,.int .u64 0,.int .u64 0,.int .u64 0,.int .u64 0,.int .u64 0,.int .u64 0,.int .u64 0,.int .u64 0,.int .u64 0,.int .u64 0,.int .u64 0,.int .u64 0,.int .u64 0,.int .u64 0] 166 (0,0)):=by rw[Bh _ _ _ (by simp[hb0]),←hb0];exact Wn _ _
 have r1:((w.alloc (.cells #[.int .u64 0,.int .u64 0,.int .u64 0,.int .u64 0,.int .u64 0,.int .u64 0,.int .u64 0,.int .u64 0,.int .u64 0,.int .u64 0,.int .u64 0,.int .u64 0,.int .u64 0,.int .u64 0,.int .u64 0,.int .u64 0] 166)).alloc (.cells #[.int .u64 0,.int .u64 0,.int .u64 0,.int .u64 0,.int .u64 0,.int .u64 0,.int .u64 0,.int .u64 0,.int .u64 0,.int .u64 0,.int .u64 0,.int .u64 0,.int .u64 0,.int .u64 0,.int .u64 0,.int .u64 0] 166)).heap[b0+1]? =some (.cells (qh .u64 (Qn H (qF Z8) 0)) 166 (0,0)):=by rw[show b0+1=(w.alloc (.cells #[.int .u64 0,.int .u64 0,.int .u64 0,.int .u64 0,.int .u64 0,.int .u64 0,.int .u64 0,.int .u64 0,.int .u64 0,.int .u64 0,.int .u64 0,.int .u64 0,.int .u64 0,.int .u64 0,.int .u64 0,.int .u64 0] 166)).heap.size by simp[hb0]];exact Wn _ _
 have hb2:Below b0 w ((w.alloc (.cells #[.int .u64 0,.int .u64 0,.int .u64 0,.int .u64 0,.int .u64 0,.int .u64 0,.int .u64 0,.int .u64 0,.int .u64 0,.int .u64 0,.int .u64 0,.int .u64 0,.int .u64 0,.int .u64 0,.int .u64 0,.int .u64 0] 166)).alloc (.cells #[.int .u64 0,.int .u64 0,.int .u64 0,.int .u64 0,.int .u64 0,.int .u64 0,.int .u64 0,.int .u64 0,.int .u64 0,.int .u64 0,.int .u64 0,.int .u64 0,.int .u64 0,.int .u64 0,.int .u64 0,.int .u64 0] 166)):=by rw[←hb0];exact(Br.alloc Nl _).alloc (by simp) _
 generalize ((w.alloc (.cells #[.int .u64 0,.int .u64 0,.int .u64 0,.int .u64 0,.int .u64 0,.int .u64 0,.int .u64 0,.int .u64 0,.int .u64 0,.int .u64 0,.int .u64 0,.int .u64 0,.int .u64 0,.int .u64 0,.int .u64 0,.int .u64 0] 166)).alloc (.cells #[.int .u64 0,.int .u64 0,.int .u64 0,.int .u64 0,.int .u64 0,.int .u64 0,.int .u64 0,.int .u64 0,.int .u64 0,.int .u64 0,.int .u64 0,.int .u64 0,.int .u64 0,.int .u64 0,.int .u64 0,.int .u64 0] 166))=W2 at*;have hn2:W2.heap[np]? =some (.cells (rN 2 v sa pe kv la mv cnt) 168 (0,0)):=(hb2.block np hnp).trans HNR.out;have R0:=hid r0;have R1:=hid r1;have HB2:=hid hb2;have HN2:=hid hn2;clear r0 r1 hb2 hn2 c30 c0n HNR hnpw;refine qA (n:=14) (w0:=W2) (B:=W2.heap.size) [.v 21 (.pointer (some ⟨np,0,none⟩)),.v 22 (.pointer (some ⟨np,0,none⟩)),.v 23 (.pointer (some ⟨np,0,none⟩)),.v 24 (.int .i64 2),.v 25 (.pointer (some ⟨np,0,none⟩)),.v 26 (.pointer (some ⟨np,0,none⟩)),.v 27 (.pointer (some ⟨np,1,none⟩)),.v 28 (.agg (qfR v sa pe)),.p 29 (fun u W=> ∃r,u= .tuple #[r,.int .i64 0]∧W.ownsRow W2.heap.size 5 1 r 32 (bs.map qp)),.p 20 (fun u W=> ∃r,u= .tuple #[r,.int .i64 0]∧W.ownsRow W2.heap.size 5 1 r 32 (bs.map qp)),.p 30 (fun u W=>W.ownsRow W2.heap.size 5 1 u 32 (bs.map qp)),.v 31 (.int .i64 0),.p 4 (fun u W=>W.ownsRow W2.heap.size 5 1 u 32 (bs.map qp)),.v 5 (.int .i64 0)] (by exact⟨(fun _ _ _ h hb=>by obtain⟨r,e,h⟩:=h;exact⟨r,e,qf h (fun g _ hg=>hb.block g hg)⟩),(fun _ _ _ h hb=>by obtain⟨r,e,h⟩:=h;exact⟨r,e,qf h (fun g _ hg=>hb.block g hg)⟩),(fun _ _ _ h hb=>qf h (fun g _ hg=>hb.block g hg)),(fun _ _ _ h hb=>qf h (fun g _ hg=>hb.block g hg)),trivial⟩) Br.drew Nl ?_ ?_
 ·repeat' (with_reducible first|exact qx|refine qu ?_ ?_)
  all_goals try
   intro A x W hA hW hBW hdep D K hK;have a0:=hA.2 0 (by decide);conv at a0=>rhs;whnf
   simp only[QU,Q4]at D;clear hdep hA;go_simp
   exact hK _ _ BR rfl
  ·intro A x W hA hW hBW hdep _ K hK;have g23:=gv hA hdep 2 23;clear hdep hA;have g0:=qc HN2.out hW;have c0:W.cell? ⟨np,0,none⟩=some (.int .i64 2):=qa g0 0;go_simp
   exact hK _ _ BR rfl
  ·intro A x W hA hW hBW hdep _ K hK;have g27:=gv hA hdep 6 27;clear hdep hA;have g0:=qc HN2.out hW;refine qV 100 _ rfl np 1 g27 168 _ (qfR v sa pe) (0,0) _ g0 Tryz.underlying100 rfl (by kernel_rfl) (qgD _ _ _ _ _ _ _ _) (hK _ _ Br rfl)
  ·intro A x W hA hW hBW hdep _ K hK;have g24:=gv hA hdep 3 24;have g28:=gv hA hdep 7 28;clear hdep hA;go_simp
   refine(HEN_.out W (HB2.out.trans (hW.mono (by omega)))).mono ?_;rintro e w' ⟨⟨r,rfl,ho⟩,hb⟩;exact hK _ _ hb ⟨r,rfl,ownsRow_le ho hBW⟩
  ·intro A x W hA hW hBW hdep _ K hK;have g29:(fun u W=> ∃r,u= .tuple #[r,.int .i64 0]∧W.ownsRow W2.heap.size 5 1 r 32 (bs.map qp)) (x 29) W:=hdep ⟨8,.data⟩ (by simp) rfl _ rfl;have a29:A.tmps.getD 29 undef=x 29:=hA.1 29 (by decide);clear hdep hA;go_simp
   exact hK _ _ Br (a29▸g29)
  ·intro A x W hA hW hBW hdep _ K hK;have g20:(fun u W=> ∃r,u= .tuple #[r,.int .i64 0]∧W.ownsRow W2.heap.size 5 1 r 32 (bs.map qp)) (x 20) W:=hdep ⟨9,.data⟩ (by simp) rfl _ rfl;have a20:A.tmps.getD 20 undef=x 20:=hA.1 20 (by decide);clear hdep hA;obtain⟨r,er,hr⟩:=g20;rw[er]at a20;go_simp
   exact hK _ _ Br hr
  ·intro A x W hA hW hBW hdep _ K hK;have g20:(fun u W=> ∃r,u= .tuple #[r,.int .i64 0]∧W.ownsRow W2.heap.size 5 1 r 32 (bs.map qp)) (x 20) W:=hdep ⟨9,.data⟩ (by simp) rfl _ rfl;have a20:A.tmps.getD 20 undef=x 20:=hA.1 20 (by decide);clear hdep hA;obtain⟨r,er,hr⟩:=g20;rw[er]at a20;go_simp
   exact hK _ _ BR rfl
  ·intro A x W hA hW hBW hdep _ K hK;have g30:(fun u W=>W.ownsRow W2.heap.size 5 1 u 32 (bs.map qp)) (x 30) W:=hdep ⟨10,.data⟩ (by simp) rfl _ rfl;have a30:A.tmps.getD 30 undef=x 30:=hA.1 30 (by decide);clear hdep hA;go_simp
   exact hK _ _ Br (a30▸g30)
 intro x W hW hBW hall;obtain⟨e29,e20,e30,e4, -⟩:=hall;change (fun u W=> ∃r,u= .tuple #[r,.int .i64 0]∧W.ownsRow W2.heap.size 5 1 r 32 (bs.map qp)) (x 29) W at e29
 change (fun u W=> ∃r,u= .tuple #[r,.int .i64 0]∧W.ownsRow W2.heap.size 5 1 r 32 (bs.map qp)) (x 20) W at e20
 change (fun u W=>W.ownsRow W2.heap.size 5 1 u 32 (bs.map qp)) (x 30) W at e30
 change (fun u W=>W.ownsRow W2.heap.size 5 1 u 32 (bs.map qp)) (x 4) W at e4
 refine qs ?_;simp only[QD,Act.put,Ls];have hh4:=QX e4;have hb5:Below b0 w W:=HB2.out.trans (hW.mono (by omega));have g0:=qc HN2.out hW;have r0:=qc R0.out hW;have r1:=qc R1.out hW;have c0n:W.cell? ⟨np,0,none⟩=some (.int .i64 2):=qa g0 0;have hnpw:np<W.heap.size:=(Ai g0).1;have hWs:b0+2≤W.heap.size:=by have:=hW.size;omega
 have R0_:=hid r0;have R1_:=hid r1;have HB5:=hid hb5;have HH4:=hid hh4;clear e29 e20 e30 e4 hh4 hb5 g0 r0 r1 hW hBW R0 R1 HB2 HN2 hs2;go_wp2_with fail
 refine(qex bs _ _ HH4.out HBZ_.out HBL_.out).mono ?_;rintro e w1 ⟨rfl,hb1⟩;rw[HH1_.out];have hs1:=hb1.size;have k0:=qc R0_.out hb1;have k1:=qc R1_.out hb1;have hbw:Below b0 w w1:=HB5.out.trans (hb1.mono (by omega));have K0:=hid k0;have K1:=hid k1;have HBW:=hid hbw;clear k0 k1 hbw hb1 R0_ R1_ HB5 HH4 c0n hnpw;go_upto_region 13 with((with_reducible show wpList _ _ _ (Oper.mk none (Op.store 187 _ _) _ _ _ _::_) _ _);refine wpList_store_row rfl 187 _ _ rfl w1.heap.size (qh .u32 H) rfl rfl 187 _ (Wn _ _) (by rw[qe,HHW_.out.1];kernel_rfl) (by rw[qe,HHW_.out.1];rfl) qv ?_)
 refine qj ?_;intro W7 hW7;obtain⟨bv,hbv⟩:=Ex w1.heap.size;have m0:W7.heap[b0]? =some (.cells #[.int .u64 0,.int .u64 0,.int .u64 0,.int .u64 0,.int .u64 0,.int .u64 0,.int .u64 0,.int .u64 0,.int .u64 0,.int .u64 0,.int .u64 0,.int .u64 0,.int .u64 0,.int .u64 0,.int .u64 0,.int .u64 0] 166 (0,0)):=by rw[hW7];exact(setRow_other (w1.alloc _) _ _ _ (by omega)).trans ((Bh _ _ _ (by omega)).trans K0.out)
 have m1:W7.heap[b0+1]? =some (.cells (qh .u64 (Qn H (qF Z8) 0)) 166 (0,0)):=by rw[hW7];exact(setRow_other (w1.alloc _) _ _ _ (by omega)).trans ((Bh _ _ _ (by omega)).trans K1.out)
 have m2:W7.heap[bv]? =some (.cells (qh .u32 H) 187 (0,0)):=by rw[hW7,←hbv];exact setRow_heap _ _ _ _ _ _ (Wn _ _)
 have hB7:Below b0 w W7:=by rw[hW7];exact below_setRow (HBW.out.alloc (by omega) _) (by omega) _
 have hbs7:bv<W7.heap.size:=(Ai m2).1;have hbvb:b0+2≤bv:=by omega
 rw[hbv];have M0:=hid m0;have M1:=hid m1;have M2:=hid m2;have HB7:=hid hB7;clear hW7 hbv m0 m1 m2 hB7 K0 K1 HBW hs1 hWs;go_wp2_with fail
 go_loopw [11] (fun i wr=> ∃j:Nat,i= .int .i64 (j:Nat)∧j≤8∧wr.heap[b0+1]? =some (.cells (qh .u64 (Qn H (qF Z8) j)) 166 (0,0))∧But (b0+1) W7 wr) (fun i _=>8 - (intOf i).toNat)
 case atStart=>exact⟨0,rfl,by omega,M1.out,But.refl _ _⟩
 case round=>
  obtain⟨j,rfl,hj,hrow,hb⟩:=hrel;have HROW:=hid hrow;have HB:=hid hb;have hwrs:bv<wr.heap.size:=by have:=hb.size;omega
  have h16:(qF Z8).length=16:=rfl;by_cases hlt:j<8
  case pos=>
   have c0:wr.cell? ⟨bv,j,none⟩=some (.int .u32 (wd H j)):=by rw[qa ((hb.block bv (by omega) (by omega)).trans M2.out) j,yY (by rw[HHW_.out.1];omega)]
   have hfl:(Qn H (qF Z8) j).length=16:=by rw[yM (by rw[HHW_.out.1];omega) (by omega),h16]
   have c1:wr.cell? ⟨b0+1,j,none⟩=some (.int .u64 (wd (Qn H (qF Z8) j) j)):=by rw[qa hrow j,yY (by omega)]
   have f1:=frozen_of_row wr (b0+1) j _ _ hrow;have hst:=heap_setCell_same wr (b0+1) j _ _ (.int .u64 (wd H j)) hrow;rw[qZ,Y8 (by rw[HHW_.out.1];omega) (by omega)]at hst;have hbd:=ym HHW_.out hlt;have hcv:IntKind.u64.wrap (wd H j)=wd H j:=u64_wrap_id _ hbd.1 (by have:=hbd.2;simp at this;omega);have HST:=hid hst;have hjj:(j:Int)<8:=by omega
   generalize wd (Qn H (qF Z8) j) j=zo at c1;generalize wd H j=zj at*;obtain⟨hbd1,hbd2⟩:=hbd;clear hst hfl hrow hb h16;go_wp2
   exact⟨⟨j+1,rfl,by omega,HST.out,HB.out.set _ _⟩,by simp[intOf];omega⟩
  obtain rfl:j=8:=by omega
  rw[Jw HHW_.out.1 rfl]at hrow;have n1:=(hb.block b0 (by omega) (by omega)).trans M0.out;have hb9:Below b0 w wr:=HB7.out.trans (hb.below (by omega) (by omega));have hR16:=qW (by decide) HHW_.out;have hwr1:b0+1<wr.heap.size:=by omega
  clear hb h16 hj hlt HROW;go_wp2_with (first|((with_reducible show wpList _ _ _ (Oper.mk (some 67) _ _ _ _ _::_) _ _);refine wpList_load_row rfl 166 _ rfl (b0+1) rfl _ _ _ _ hrow Tryz.underlying166 rfl (by rw[qe,hR16.1];kernel_rfl) ?_)|((with_reducible show wpList _ _ _ (Oper.mk none (Op.store 166 _ _) _ _ _ _::_) _ _);refine wpList_store_row rfl 166 _ _ rfl b0 (qh .u64 (qF H)) rfl rfl 166 _ n1 (by rw[qe,hR16.1];kernel_rfl) (by rw[qe,hR16.1];rfl) qv ?_))
  exact Bp (results_cell_row rfl _ _ b0 166 _ _ _ rfl (setRow_heap _ _ _ _ _ _ n1) Tryz.underlying166 rfl (by rw[qe,hR16.1];kernel_rfl)) rfl ⟨rfl,by rw[hb0];exact below_setRow hb9 Nl _⟩
structure TreeOk (t:TreeV)(kz z1 z2:List Int)(w:World):Prop where
 v:t.validE=0
 l:0≤t.l∧t.l≤4294967295
 k:Hold w (.slice t.ka t.kl t.kc) kz
 s:Hold w (.slice t.sa t.sl t.sc) z1
 p:Hold w (.slice t.pa t.pl t.pc) z2
theorem TreeOk.below {t:TreeV}{kz z1 z2:List Int}{w w':World}(h:TreeOk t kz z1 z2 w)(hb:Below w.heap.size w w'):TreeOk t kz z1 z2 w':=⟨h.v,h.l,h.k.below hb,h.s.below hb,h.p.below hb⟩
theorem Yr {w:World}{a:Option Addr}{n c:Nat}{zs:List Int}(h:Hold w (.slice a n c) zs):zs.length=n:=by
 obtain⟨a',c',e, -, -⟩:=h.slice;simp only[Value.slice.injEq]at e;exact e.2.1.symm
def TreeV.node (t:TreeV)(kz z1 z2:List Int)(row i:Nat)(la rt:Bool)(d:List Int):List Int:=JF t.big (t.blk z1 z2 row i) (zq row kz) la (t.outN rt) d
theorem Yw (t:TreeV)(kz z1 z2:List Int)(row i:Nat)(la rt:Bool)(d:List Int): ∀a∈t.node kz z1 z2 row i la rt d,0≤a∧a≤255:=fun a ha=>qdH _ _ _ _ a (List.mem_of_mem_take ha)
theorem qcW (big:Bool)(bs kz ds:List Int)(la:Bool)(o:Int)(bv kv dv:Value)(w:World)(hB:Hold w bv bs)(hK:Hold w kv kz)(hD:Hold w dv ds)(hdl:(ds.length:Int)≤140737488355200)(hok:okD big false bs)(hkb0:YB bs kz=false)(ho:1≤o∧o≤(mB big:Nat)):
  Calls Tryz.prog 36 #[.agg (qt (kB big) bv kv la o dv)] w fun e w'=>qbB big bs kz la o ds w e w':=by
 cases big
 ·exact qe8 bs kz ds la o bv kv dv w hB hK hD hdl hok hkb0 ho
 ·exact qgg bs kz ds la o bv kv dv w hB hK hD hdl hok hkb0 ho
theorem TreeOk.okD {t:TreeV}{kz z1 z2:List Int}{w:World}(h:TreeOk t kz z1 z2 w){row at_:Nat}(hr:row≤255)(ha:at_<281474976710656):
  Go.Proofs.YtdndeffmlhaipaaGreat.okD t.big false (t.blk z1 z2 row at_)∧YB (t.blk z1 z2 row at_) (zq row kz)=false∧(∀z∈t.blk z1 z2 row at_,0≤z∧z≤255)∧ ∀rt:Bool,1≤t.outN rt∧t.outN rt≤(mB t.big:Nat):=by
 have hvf:=qk h.v;have hmb:=yx h.v;have e1:=Yr h.s;have e2:=Yr h.p;have e3:=Yr h.k;obtain⟨h1,h2⟩:=qhI (z1:=z1) (z2:=z2) (Z4 h.v h.l hr ha) (by omega) (by omega);refine⟨h1,?_,Z0 h.s.1 h.p.1,fun rt=>?_⟩
 ·have h3:qo (t.blk z1 z2 row at_) 1=(t.kl:Int):=h2;unfold YB zq;rw[h3];refine decide_eq_false ?_;split
  ·omega
  ·simp
 ·obtain⟨-,d1,d2,d3,d4, -⟩:=hvf
  cases rt
  ·show 1≤t.i∧t.i≤_;omega
  ·show 1≤t.d∧t.d≤_;omega
theorem qcU {t:TreeV}{kz z1 z2:List Int}{w:World}(h:TreeOk t kz z1 z2 w){row at_:Nat}(hr:row≤255)(ha:at_<281474976710656)(la rt:Bool)(ds:List Int)(dv bv kv:Value)(W:World)(b:Nat)
  (ho:W.ownsRow b 5 1 bv (mB t.big) ((t.blk z1 z2 row at_).map qp)) (hk:W.ownsRow b 5 1 kv (zq row kz).length ((zq row kz).map qp)) (hd:Hold W dv ds) (hl:ds.length≤1073741824):
  Calls Tryz.prog 36 #[.agg (qt t.k bv kv la (t.outN rt) dv)] W fun e w'=> ∃u,e= .returned (.tuple #[u,.int .i64 0])∧OwnB W.heap.size w' u (t.node kz z1 z2 row at_ la rt ds)∧Below W.heap.size W w':=by
 obtain⟨h1,h2,h3,h4⟩:=h.okD hr ha;have hkz: ∀z∈zq row kz,0≤z∧z≤255:=fun z hz=>by
  unfold zq at hz;split at hz
  ·exact h.k.1 z hz
  ·cases hz
 rw[←Y5 h.v];refine(qcW t.big _ _ ds la _ bv kv dv W (Qj ho h3) (Qj hk hkz) hd (by omega) h1 h2 (h4 rt)).mono ?_;rintro e w' ⟨⟨u,rfl,hu⟩,hb⟩
 exact⟨u,rfl,⟨Yw t kz z1 z2 row at_ la rt ds,hu⟩,hb⟩
def TreeV.rowZ (t:TreeV)(kz z1 z2:List Int)(row:Nat)(rt:Bool)(L:List (List Int))(m:Nat):List (List Int):=(List.range m).map fun i=>t.node kz z1 z2 row i (decide (i+1=L.length)) rt (qN L i)
theorem yA (t:TreeV)(kz z1 z2:List Int)(row:Nat)(rt:Bool)(L:List (List Int))(m:Nat):t.rowZ kz z1 z2 row rt L (m+1)=t.rowZ kz z1 z2 row rt L m++[t.node kz z1 z2 row m (decide (m+1=L.length)) rt (qN L m)]:=by simp[TreeV.rowZ,List.range_succ]
theorem TreeV.rowZ_length (t:TreeV)(kz z1 z2:List Int)(row:Nat)(rt:Bool)(L:List (List Int))(m:Nat):(t.rowZ kz z1 z2 row rt L m).length=m:=by simp[TreeV.rowZ]
structure CallS where
 k:Int
 bs:List Int
 kz:List Int
 la:Bool
 o:Int
 ds:List Int
def CallS.zero:CallS:=⟨0,[],[],false,0,[]⟩
def KeepH (w0:World)(B:Nat)(w:World)(v:Value)(z:List Int):Prop:=OwnB B w v z∨Hold w0 v z∧Below w0.heap.size w0 w
theorem KeepH.hold {w0 w:World}{B:Nat}{v:Value}{z:List Int}(h:KeepH w0 B w v z):Hold w v z:=by
 rcases h with h|⟨h,hb⟩
 ·exact h.hold
 ·exact h.below hb
theorem KeepH.kb {w0 w w':World}{B b:Nat}{v:Value}{z:List Int}(h:KeepH w0 B w v z)(hb:w0.heap.size≤b)(k:KB b w w'):KeepH w0 B w' v z:=by
 rcases h with h|⟨h,h2⟩
 ·exact .inl (h.kb k)
 ·exact .inr ⟨h,h2.trans (k.below.mono hb)⟩
theorem KeepH.le {w0 w:World}{B b:Nat}{v:Value}{z:List Int}(h:KeepH w0 B w v z)(hb:b≤B):KeepH w0 b w v z:=by
 rcases h with h|h
 ·exact .inl (h.le hb)
 ·exact .inr h
def CallAt (w0:World)(B:Nat)(w:World)(s:CallS)(c:List Value):Prop:=
 ∃a1 n1 c1 a2 n2 c2 a3 n3 c3,c=[.int .i64 s.k,.slice a1 n1 c1,.slice a2 n2 c2,.bool s.la,.int .i64 s.o,.slice a3 n3 c3]∧OwnB B w (.slice a1 n1 c1) s.bs∧KeepH w0 B w (.slice a2 n2 c2) s.kz∧KeepH w0 B w (.slice a3 n3 c3) s.ds
theorem CallAt.kb {w0 w w':World}{B b:Nat}{s:CallS}{c:List Value}(h:CallAt w0 B w s c)(hb:w0.heap.size≤b)(k:KB b w w'):CallAt w0 B w' s c:=by
 obtain⟨a1,n1,c1,a2,n2,c2,a3,n3,c3,e,h1,h2,h3⟩:=h;exact⟨a1,n1,c1,a2,n2,c2,a3,n3,c3,e,h1.kb k,h2.kb hb k,h3.kb hb k⟩
theorem CallAt.le {w0 w:World}{B b:Nat}{s:CallS}{c:List Value}(h:CallAt w0 B w s c)(hb:b≤B):CallAt w0 b w s c:=by
 obtain⟨a1,n1,c1,a2,n2,c2,a3,n3,c3,e,h1,h2,h3⟩:=h;exact⟨a1,n1,c1,a2,n2,c2,a3,n3,c3,e,h1.le hb,h2.le hb,h3.le hb⟩
def CallsO (w0:World)(B:Nat)(w:World)(v:Value)(S:List CallS):Prop:=
 ∃cs:List (List Value),cs.length=S.length∧w.ownsRow B 54 6 v S.length cs.flatten∧ ∀i,i<S.length→CallAt w0 B w (S.getD i .zero) (cs.getD i [])
theorem CallsO.nil (w0:World)(B:Nat)(w:World):CallsO w0 B w (.slice none 0 0) []:=⟨[],rfl,Wo _ _ _ _,fun i hi=>by simp at hi⟩
theorem CallsO.kb {w0 w w':World}{B b:Nat}{v:Value}{S:List CallS}(h:CallsO w0 B w v S)(hb:w0.heap.size≤b)(k:KB b w w')(hs: ∀g,v.ownBlock=some g→w'.heap[g]? =w.heap[g]?):CallsO w0 B w' v S:=by
 obtain⟨cs,hl,ho,hx⟩:=h;refine⟨cs,hl,⟨ho.1,?_⟩,fun i hi=>(hx i hi).kb hb k⟩;rcases ho.2 with h2|⟨g,cap,cur,rfl,h1,h2,h3⟩
 ·exact .inl h2
 ·exact .inr ⟨g,cap,cur,rfl,h1,by rw[hs g rfl];exact h2,h3⟩
theorem QS {w:World}{B T n s:Nat}{v:Value}{xs:List Value}(ho:w.ownsRow B T s v n xs): ∀g,v.ownBlock=some g→g<w.heap.size:=by
 intro g hg;rcases ho.2 with⟨rfl, -⟩|⟨g',cap,cur,rfl, -,h2, -⟩
 ·cases hg
 ·simp only[Value.ownBlock,Option.some.injEq]at hg;subst hg;exact(Ai h2).1
theorem CallsO.below {w0 w w':World}{B:Nat}{v:Value}{S:List CallS}(h:CallsO w0 B w v S)(hw:w0.heap.size≤w.heap.size)(k:Below w.heap.size w w'):CallsO w0 B w' v S:=by
 refine h.kb hw (KB.of_below k Nl) fun g hg=>?_
 obtain⟨cs, -,ho, -⟩:=h;exact k.block g (QS ho g hg)
theorem CallsO.le {w0 w:World}{B b:Nat}{v:Value}{S:List CallS}(h:CallsO w0 B w v S)(hb:b≤B):CallsO w0 b w v S:=by
 obtain⟨cs,hl,ho,hx⟩:=h;exact⟨cs,hl,ownsRow_le ho hb,fun i hi=>(hx i hi).le hb⟩
theorem jo {α:Type}(L:List α)(x d:α)(i:Nat):(L++[x]).getD i d=if i<L.length then L.getD i d else if i=L.length then x else d:=by
 simp only[Lg];by_cases h:i<L.length
 ·rw[List.getElem?_append_left h,if_pos h]
 ·rw[if_neg h,List.getElem?_append_right (by omega)];by_cases h2:i=L.length
  ·subst h2;simp
  ·rw[if_neg h2,List.getElem?_eq_none (by simp;omega)];rfl
theorem CallsO.snoc {w0 w w':World}{B:Nat}{v':Value}{S:List CallS}{s:CallS}{cs:List (List Value)}{c:List Value}(hx: ∀i,i<S.length→CallAt w0 B w (S.getD i .zero) (cs.getD i []))(hl:cs.length=S.length)(hz:CallAt w0 B w s c)
  (ho:w'.ownsRow B 54 6 v' (S.length+1) (cs.flatten++c)) (hb:w0.heap.size≤B) (hk:KB B w w'):CallsO w0 B w' v' (S++[s]):=by
 refine⟨cs++[c],by simp[hl],by simpa using ho,fun i hi=>?_⟩;simp only[List.length_append,List.length_singleton]at hi;rw[jo,jo,hl];by_cases h:i<S.length
 ·rw[if_pos h,if_pos h];exact(hx i h).kb hb hk
 ·rw[if_neg h,if_neg h,if_pos (by omega),if_pos (by omega)];exact hz.kb hb hk
theorem YA {W W':World}{B1 B2 T1 T2 s1 s2 n1 n2:Nat}{v1 v2:Value}{x1 x2:List Value}(h1:W.ownsRow B1 T1 s1 v1 n1 x1)(h2:W.ownsRow B2 T2 s2 v2 n2 x2)(hT:T1≠T2)(h:Spare (fun k=>v1.ownBlock≠some k) W W'): ∀g,v2.ownBlock=some g→W'.heap[g]? =W.heap[g]? :=by
 intro g hg;refine h.block g (QS h2 g hg) fun e=>?_
 rcases h1.2 with⟨rfl, -⟩|⟨g1,k1,c1,rfl, -,p1, -⟩
 ·cases e
 rcases h2.2 with⟨rfl, -⟩|⟨g2,k2,c2,rfl, -,p2, -⟩
 ·cases hg
 simp only[Value.ownBlock,Option.some.injEq]at e hg;subst e hg;rw[p1]at p2;simp only[Option.some.injEq,Obj.cells.injEq]at p2;exact hT p2.2.1
theorem zb {W W':World}{B T s n:Nat}{v:Value}{xs:List Value}(h:W.ownsRow B T s v n xs)(hs: ∀g,v.ownBlock=some g→W'.heap[g]? =W.heap[g]?):W'.ownsRow B T s v n xs:=by
 refine⟨h.1,?_⟩;rcases h.2 with h2|⟨g,cap,cur,rfl,h1,h2,h3⟩
 ·exact .inl h2
 ·exact .inr ⟨g,cap,cur,rfl,h1,by rw[hs g rfl];exact h2,h3⟩
theorem QW {W:World}{B T s n:Nat}{v:Value}{xs:List Value}(h:W.ownsRow B T s v n xs): ∃a n c,v= .slice a n c:=by
 rcases h.2 with⟨rfl, -⟩|⟨g,cap,cur,rfl, -⟩
 ·exact⟨_,_,_,rfl⟩
 ·exact⟨_,_,_,rfl⟩
def LevO (w0:World)(B:Nat)(w:World)(v:Value)(SS:List (List CallS)):Prop:=
 ∃vs:List Value,w.ownsRow B 75 1 v SS.length vs∧ ∀i,i<SS.length→CallsO w0 B w (vs.getD i undef) (SS.getD i [])
theorem LevO.nil (w0:World)(B:Nat)(w:World):LevO w0 B w (.slice none 0 0) []:=⟨[],Wo _ _ _ _,fun i hi=>by simp at hi⟩
theorem LevO.below {w0 w w':World}{B:Nat}{v:Value}{SS:List (List CallS)}(h:LevO w0 B w v SS)(hw:w0.heap.size≤w.heap.size)(k:Below w.heap.size w w'):LevO w0 B w' v SS:=by
 obtain⟨vs,ho,hx⟩:=h;exact⟨vs,qf ho (fun g _ g2=>k.block g g2),fun i hi=>(hx i hi).below hw k⟩
theorem LevO.le {w0 w:World}{B b:Nat}{v:Value}{SS:List (List CallS)}(h:LevO w0 B w v SS)(hb:b≤B):LevO w0 b w v SS:=by
 obtain⟨vs,ho,hx⟩:=h;exact⟨vs,ownsRow_le ho hb,fun i hi=>(hx i hi).le hb⟩
theorem LevO.snoc {w0 w w':World}{B:Nat}{v v' x:Value}{SS:List (List CallS)}{S:List CallS}{vs:List Value}(ho:w.ownsRow B 75 1 v SS.length vs)(hx: ∀i,i<SS.length→CallsO w0 B w (vs.getD i undef) (SS.getD i []))(hz:CallsO w0 B w x S)
  (ho':w'.ownsRow B 75 1 v' (SS.length+1) (vs++[x])) (hb:w0.heap.size≤B) (hk:KB B w w') (hsp:Spare (fun k=>v.ownBlock≠some k) w w'):LevO w0 B w' v' (SS++[S]):=by
 have hl:vs.length=SS.length:=by have:=ho.1;simpa using this
 have one: ∀u S,CallsO w0 B w u S→CallsO w0 B w' u S:=fun u S h=>by
  refine h.kb hb hk fun g hg=>?_
  obtain⟨cs, -,h2, -⟩:=h;exact YA ho h2 (by decide) hsp g hg
 refine⟨vs++[x],by simpa using ho',fun i hi=>?_⟩;simp only[List.length_append,List.length_singleton]at hi;rw[jo,jo,hl];by_cases h:i<SS.length
 ·rw[if_pos h,if_pos h];exact one _ _ (hx i h)
 ·rw[if_neg h,if_neg h,if_pos (by omega),if_pos (by omega)];exact one _ _ hz
theorem jj:(Tryz.prog.info? 54).map (fun i=>(i.zero,i.size,i.bytes))=some (some (.agg #[.int .i64 0,.slice none 0 0,.slice none 0 0,.bool false,.int .i64 0,.slice none 0 0]),6,96):=by kernel_rfl
theorem Zd:(Tryz.prog.info? 75).map (fun i=>(i.zero,i.size,i.bytes))=some (some (.slice none 0 0),1,24):=by kernel_rfl
theorem zO {ops:Array Oper}{rest:List Oper}{o:Oper}{act:Act}{w:World}{Q:Exit→Act→World→Prop}(hg:o.guard=none)(x:Operand)(ho:o.op= .buildSlice 75 1 #[(0,x)])(x0 x1 x2 x3 x4 x5:Value)(hx:act.eval x= .agg #[x0,x1,x2,x3,x4,x5])
  (h:wpList Tryz.prog ops Q rest (act.put o.dst (.slice (some ⟨w.heap.size,0,none⟩) 1 1)) (w.alloc (.cells #[x0,x1,x2,x3,x4,x5] 54))):wpList Tryz.prog ops Q (o::rest) act w:=by
 obtain⟨ib,hib,hzb,hsb, -⟩:=info_parts jj;exact wpList_buildSlice hg 75 54 1 _ ho #[x0,x1,x2,x3,x4,x5] ib _ Tryz.underlying75 hib hzb (by rw[hsb];decide) (by rw[hsb];decide) (by rw[hsb,show Array.range (1*6)= #[0,1,2,3,4,5] by decide];simp[hx,Instr.fill,Value.cells]) h
theorem jA {ops:Array Oper}{rest:List Oper}{o:Oper}{act:Act}{w:World}{Q:Exit→Act→World→Prop}(hg:o.guard=none)(x:Operand)(ho:o.op= .buildSlice 79 1 #[(0,x)])(a:Option Addr)(n k:Nat)(hx:act.eval x= .slice a n k)
  (h:wpList Tryz.prog ops Q rest (act.put o.dst (.slice (some ⟨w.heap.size,0,none⟩) 1 1)) (w.alloc (.cells #[.slice a n k] 75))):wpList Tryz.prog ops Q (o::rest) act w:=by
 obtain⟨ib,hib,hzb,hsb, -⟩:=info_parts Zd;exact wpList_buildSlice hg 79 75 1 _ ho #[.slice a n k] ib _ Tryz.underlying79 hib hzb (by rw[hsb];decide) (by rw[hsb];decide) (by rw[hsb,show Array.range (1*1)= #[0] by decide];simp[hx,Instr.fill,Value.cells]) h
def TreeV.callS (t:TreeV)(kz z1 z2:List Int)(row i:Nat)(la rt:Bool)(d:List Int):CallS:=⟨t.k,t.blk z1 z2 row i,zq row kz,la,t.outN rt,d⟩
def TreeV.rowC (t:TreeV)(kz z1 z2:List Int)(row:Nat)(rt:Bool)(L:List (List Int))(m:Nat):List CallS:=(List.range m).map fun i=>t.callS kz z1 z2 row i (decide (i+1=L.length)) rt (qN L i)
theorem YX (t:TreeV)(kz z1 z2:List Int)(row:Nat)(rt:Bool)(L:List (List Int))(m:Nat):t.rowC kz z1 z2 row rt L (m+1)=t.rowC kz z1 z2 row rt L m++[t.callS kz z1 z2 row m (decide (m+1=L.length)) rt (qN L m)]:=by simp[TreeV.rowC,List.range_succ]
theorem qy (t:TreeV)(kz z1 z2:List Int)(row:Nat)(rt:Bool)(L:List (List Int))(m:Nat):(t.rowC kz z1 z2 row rt L m).length=m:=by simp[TreeV.rowC]
theorem cBD {B:Nat}{a w:World}{n:Nat}(h:Below B a w):Below B a (w.drewN n):=⟨h.os,h.tape,h.output,h.size,h.block⟩
def CallM (w:World)(v:Value)(c:CallS):Prop:= ∃bv kv dv,v= .agg (qt c.k bv kv c.la c.o dv)∧Hold w bv c.bs∧Hold w kv c.kz∧Hold w dv c.ds
theorem CallM.below {w w':World}{v:Value}{c:CallS}(h:CallM w v c)(hb:Below w.heap.size w w'):CallM w' v c:=by
  obtain⟨bv,kv,dv,e,h1,h2,h3⟩:=h;exact⟨bv,kv,dv,e,h1.below hb,h2.below hb,h3.below hb⟩
def Zl (a b:CallS):Bool:=(a.k==b.k)&&((a.la==b.la)&&((a.o==b.o)&&(decide (a.bs=b.bs)&&(decide (a.kz=b.kz)&&decide (a.ds=b.ds)))))
theorem ja (a b:CallS):Zl a b=true↔a=b:=by
  obtain⟨k1,xs1,xs2,la1,o1,xs3⟩:=a;obtain⟨k2,ys1,ys2,la2,o2,ys3⟩:=b;unfold Zl;simp only[Bool.and_eq_true,beq_iff_eq,decide_eq_true_eq,CallS.mk.injEq];exact⟨fun⟨h1,h2,h3,h4,h5,h6⟩=>⟨h1,h4,h5,h2,h3,h6⟩,fun⟨h1,h4,h5,h2,h3,h6⟩=>⟨h1,h2,h3,h4,h5,h6⟩⟩
theorem qaV (a:CallS):Zl a a=true:=by simp[Zl]
theorem qeg (a b:CallS)(va vb:Value)(w:World)(ha:CallM w va a)(hb:CallM w vb b):
    Calls Tryz.prog 111 #[va,vb] w fun e w'=>e= .returned (.bool (!Zl a b))∧Below w.heap.size w w':=by
  obtain⟨bv1,kv1,dv1,rfl,h1,h2,h3⟩:=ha;obtain⟨bv2,kv2,dv2,rfl,h4,h5,h6⟩:=hb;unfold Zl;obtain⟨k1,xs1,xs2,la1,o1,xs3⟩:=a;obtain⟨k2,ys1,ys2,la2,o2,ys3⟩:=b;dsimp only at*;obtain⟨b0,hb0⟩:=Ex w.heap.size;obtain⟨b1,hb1⟩:=Ex ((w.alloc (.cells (qt k1 bv1 kv1 la1 o1 dv1) 54)).heap.size);have hsz:w.heap.size<(w.alloc (.cells (qt k1 bv1 kv1 la1 o1 dv1) 54)).heap.size:=(Ai (Wn w (.cells (qt k1 bv1 kv1 la1 o1 dv1) 54))).1;have hne:b0<b1:=by rw[←hb0,←hb1];exact hsz
  have hbA:Below b0 w ((w.alloc (.cells (qt k1 bv1 kv1 la1 o1 dv1) 54)).alloc (.cells (qt k2 bv2 kv2 la2 o2 dv2) 54)):=by rw[←hb0];exact(Br.alloc Nl _).alloc (Nat.le_of_lt hsz) _
  have r0:((w.alloc (.cells (qt k1 bv1 kv1 la1 o1 dv1) 54)).alloc (.cells (qt k2 bv2 kv2 la2 o2 dv2) 54)).heap[b0]? =some (.cells (qt k1 bv1 kv1 la1 o1 dv1) 54 (0,0)):=by
    rw[←hb0];exact(Bh _ _ _ hsz).trans (Wn w _)
  have r1:((w.alloc (.cells (qt k1 bv1 kv1 la1 o1 dv1) 54)).alloc (.cells (qt k2 bv2 kv2 la2 o2 dv2) 54)).heap[b1]? =some (.cells (qt k2 bv2 kv2 la2 o2 dv2) 54 (0,0)):=by
    rw[←hb1];exact Wn (w.alloc _) _
  have H1:=hid (h1.below (hb0▸hbA));have H2:=hid (h2.below (hb0▸hbA));have H3:=hid (h3.below (hb0▸hbA));have H4:=hid (h4.below (hb0▸hbA));have H5:=hid (h5.below (hb0▸hbA));have H6:=hid (h6.below (hb0▸hbA));clear h1 h2 h3 h4 h5 h6;obtain⟨q1,hq1⟩: ∃q,(k1==k2)=q:=⟨_,rfl⟩;obtain⟨q2,hq2⟩: ∃q,(la1==la2)=q:=⟨_,rfl⟩;obtain⟨q3,hq3⟩: ∃q,(o1==o2)=q:=⟨_,rfl⟩;obtain⟨q4,hq4⟩: ∃q,decide (xs1=ys1)=q:=⟨_,rfl⟩;obtain⟨q5,hq5⟩: ∃q,decide (xs2=ys2)=q:=⟨_,rfl⟩;obtain⟨q6,hq6⟩: ∃q,decide (xs3=ys3)=q:=⟨_,rfl⟩;rw[hq1,hq2,hq3,hq4,hq5,hq6];have hn1:(k1 != k2)= !q1:=by rw[←hq1];rfl
  have hn2:(la1 != la2)= !q2:=by rw[←hq2];rfl
  have hn3:(o1 != o2)= !q3:=by rw[←hq3];rfl
  have S4:=hid (show ∀W,Below ((w.alloc (.cells (qt k1 bv1 kv1 la1 o1 dv1) 54)).alloc (.cells (qt k2 bv2 kv2 la2 o2 dv2) 54)).heap.size ((w.alloc (.cells (qt k1 bv1 kv1 la1 o1 dv1) 54)).alloc (.cells (qt k2 bv2 kv2 la2 o2 dv2) 54)) W→Calls Tryz.prog 87 #[bv1,bv2] W fun e w'=>e= .returned (.bool q4)∧w'=W from fun W hW=>hq4▸Ji _ _ _ _ W (H1.out.below hW) (H4.out.below hW));have S5:=hid (show ∀W,Below ((w.alloc (.cells (qt k1 bv1 kv1 la1 o1 dv1) 54)).alloc (.cells (qt k2 bv2 kv2 la2 o2 dv2) 54)).heap.size ((w.alloc (.cells (qt k1 bv1 kv1 la1 o1 dv1) 54)).alloc (.cells (qt k2 bv2 kv2 la2 o2 dv2) 54)) W→Calls Tryz.prog 87 #[kv1,kv2] W fun e w'=>e= .returned (.bool q5)∧w'=W from fun W hW=>hq5▸Ji _ _ _ _ W (H2.out.below hW) (H5.out.below hW));have S6:=hid (show ∀W,Below ((w.alloc (.cells (qt k1 bv1 kv1 la1 o1 dv1) 54)).alloc (.cells (qt k2 bv2 kv2 la2 o2 dv2) 54)).heap.size ((w.alloc (.cells (qt k1 bv1 kv1 la1 o1 dv1) 54)).alloc (.cells (qt k2 bv2 kv2 la2 o2 dv2) 54)) W→Calls Tryz.prog 87 #[dv1,dv2] W fun e w'=>e= .returned (.bool q6)∧w'=W from fun W hW=>hq6▸Ji _ _ _ _ W (H3.out.below hW) (H6.out.below hW));clear hq4 hq5 hq6 H1 H2 H3 H4 H5 H6;unfold qt at*;go_enter Tryz.func111,Tryz.ntmps111
  go_upto_region 1 with(fail)
  generalize ((w.alloc (.cells #[.int .i64 k1,bv1,kv1,.bool la1,.int .i64 o1,dv1] 54)).alloc (.cells #[.int .i64 k2,bv2,kv2,.bool la2,.int .i64 o2,dv2] 54))=W at*;have c00:W.cell? ⟨b0,0,none⟩=some (.int .i64 k1):=qa r0 0;have c01:W.cell? ⟨b0,1,none⟩=some (bv1):=qa r0 1;have c02:W.cell? ⟨b0,2,none⟩=some (kv1):=qa r0 2;have c03:W.cell? ⟨b0,3,none⟩=some (.bool la1):=qa r0 3;have c04:W.cell? ⟨b0,4,none⟩=some (.int .i64 o1):=qa r0 4;have c05:W.cell? ⟨b0,5,none⟩=some (dv1):=qa r0 5;have c10:W.cell? ⟨b1,0,none⟩=some (.int .i64 k2):=qa r1 0;have c11:W.cell? ⟨b1,1,none⟩=some (bv2):=qa r1 1;have c12:W.cell? ⟨b1,2,none⟩=some (kv2):=qa r1 2;have c13:W.cell? ⟨b1,3,none⟩=some (.bool la2):=qa r1 3;have c14:W.cell? ⟨b1,4,none⟩=some (.int .i64 o2):=qa r1 4;have c15:W.cell? ⟨b1,5,none⟩=some (dv2):=qa r1 5;have HA:=hid hbA;have hs0:b0<W.heap.size:=(Ai r0).1;have hs1:b1<W.heap.size:=(Ai r1).1;clear r0 r1 hbA hb1 hsz
  cases q1
  case false=>
    go_wp2_with fail
    go_ret
    exact⟨rfl,by rw[hb0];exact HA.out⟩
  cases q2
  case false=>
    go_wp2_with fail
    go_ret
    exact⟨rfl,by rw[hb0];exact HA.out⟩
  cases q3
  case false=>
    go_wp2_with fail
    go_ret
    exact⟨rfl,by rw[hb0];exact HA.out⟩
  cases q4
  case false=>
    go_wp2_with fail
    refine(S4.out _ Br).mono ?_;rintro e w9 ⟨rfl,hw⟩;have hw9:=hw;subst hw9;clear hw;go_wp2_with fail
    go_ret
    exact⟨rfl,by rw[hb0];exact HA.out⟩
  cases q5
  case false=>
    go_wp2_with fail
    refine(S4.out _ Br).mono ?_;rintro e w9 ⟨rfl,hw⟩;have hw9:=hw;subst hw9;clear hw;go_wp2_with fail
    refine(S5.out _ Br).mono ?_;rintro e w9 ⟨rfl,hw⟩;have hw9:=hw;subst hw9;clear hw;go_wp2_with fail
    go_ret
    exact⟨rfl,by rw[hb0];exact HA.out⟩
  cases q6
  case false=>
    go_wp2_with fail
    refine(S4.out _ Br).mono ?_;rintro e w9 ⟨rfl,hw⟩;have hw9:=hw;subst hw9;clear hw;go_wp2_with fail
    refine(S5.out _ Br).mono ?_;rintro e w9 ⟨rfl,hw⟩;have hw9:=hw;subst hw9;clear hw;go_wp2_with fail
    refine(S6.out _ Br).mono ?_;rintro e w9 ⟨rfl,hw⟩;have hw9:=hw;subst hw9;clear hw;go_wp2_with fail
    go_ret
    exact⟨rfl,by rw[hb0];exact HA.out⟩
  go_wp2_with fail
  refine(S4.out _ Br).mono ?_;rintro e w9 ⟨rfl,hw⟩;have hw9:=hw;subst hw9;clear hw;go_wp2_with fail
  refine(S5.out _ Br).mono ?_;rintro e w9 ⟨rfl,hw⟩;have hw9:=hw;subst hw9;clear hw;go_wp2_with fail
  refine(S6.out _ Br).mono ?_;rintro e w9 ⟨rfl,hw⟩;have hw9:=hw;subst hw9;clear hw;go_wp2_with fail
  go_ret
  exact⟨rfl,by rw[hb0];exact HA.out⟩
theorem J3 (a b:CallS)(va vb:Value)(w:World)(ha:CallM w va a)(hb:CallM w vb b):
    Calls Tryz.prog 28 #[va,vb] w fun e w'=>e= .returned (.bool (Zl a b))∧Below w.heap.size w w':=by
  obtain⟨bv1,kv1,dv1,rfl,h1,h2,h3⟩:=ha;obtain⟨bv2,kv2,dv2,rfl,h4,h5,h6⟩:=hb;unfold Zl;obtain⟨k1,xs1,xs2,la1,o1,xs3⟩:=a;obtain⟨k2,ys1,ys2,la2,o2,ys3⟩:=b;dsimp only at*;obtain⟨b0,hb0⟩:=Ex w.heap.size;obtain⟨b1,hb1⟩:=Ex ((w.alloc (.cells (qt k1 bv1 kv1 la1 o1 dv1) 54)).heap.size);have hsz:w.heap.size<(w.alloc (.cells (qt k1 bv1 kv1 la1 o1 dv1) 54)).heap.size:=(Ai (Wn w (.cells (qt k1 bv1 kv1 la1 o1 dv1) 54))).1;have hne:b0<b1:=by rw[←hb0,←hb1];exact hsz
  have hbA:Below b0 w ((w.alloc (.cells (qt k1 bv1 kv1 la1 o1 dv1) 54)).alloc (.cells (qt k2 bv2 kv2 la2 o2 dv2) 54)):=by rw[←hb0];exact(Br.alloc Nl _).alloc (Nat.le_of_lt hsz) _
  have r0:((w.alloc (.cells (qt k1 bv1 kv1 la1 o1 dv1) 54)).alloc (.cells (qt k2 bv2 kv2 la2 o2 dv2) 54)).heap[b0]? =some (.cells (qt k1 bv1 kv1 la1 o1 dv1) 54 (0,0)):=by
    rw[←hb0];exact(Bh _ _ _ hsz).trans (Wn w _)
  have r1:((w.alloc (.cells (qt k1 bv1 kv1 la1 o1 dv1) 54)).alloc (.cells (qt k2 bv2 kv2 la2 o2 dv2) 54)).heap[b1]? =some (.cells (qt k2 bv2 kv2 la2 o2 dv2) 54 (0,0)):=by
    rw[←hb1];exact Wn (w.alloc _) _
  have H1:=hid (h1.below (hb0▸hbA));have H2:=hid (h2.below (hb0▸hbA));have H3:=hid (h3.below (hb0▸hbA));have H4:=hid (h4.below (hb0▸hbA));have H5:=hid (h5.below (hb0▸hbA));have H6:=hid (h6.below (hb0▸hbA));clear h1 h2 h3 h4 h5 h6;obtain⟨q1,hq1⟩: ∃q,(k1==k2)=q:=⟨_,rfl⟩;obtain⟨q2,hq2⟩: ∃q,(la1==la2)=q:=⟨_,rfl⟩;obtain⟨q3,hq3⟩: ∃q,(o1==o2)=q:=⟨_,rfl⟩;obtain⟨q4,hq4⟩: ∃q,decide (xs1=ys1)=q:=⟨_,rfl⟩;obtain⟨q5,hq5⟩: ∃q,decide (xs2=ys2)=q:=⟨_,rfl⟩;obtain⟨q6,hq6⟩: ∃q,decide (xs3=ys3)=q:=⟨_,rfl⟩;rw[hq1,hq2,hq3,hq4,hq5,hq6];have hn1:(k1 != k2)= !q1:=by rw[←hq1];rfl
  have hn2:(la1 != la2)= !q2:=by rw[←hq2];rfl
  have hn3:(o1 != o2)= !q3:=by rw[←hq3];rfl
  have S4:=hid (show ∀W,Below ((w.alloc (.cells (qt k1 bv1 kv1 la1 o1 dv1) 54)).alloc (.cells (qt k2 bv2 kv2 la2 o2 dv2) 54)).heap.size ((w.alloc (.cells (qt k1 bv1 kv1 la1 o1 dv1) 54)).alloc (.cells (qt k2 bv2 kv2 la2 o2 dv2) 54)) W→Calls Tryz.prog 47 #[bv1,bv2] W fun e w'=>e= .returned (.bool q4)∧ ∃m,w'=W.drewN m from fun W hW=>hq4▸yt _ _ _ _ W (H1.out.below hW) (H4.out.below hW));have S5:=hid (show ∀W,Below ((w.alloc (.cells (qt k1 bv1 kv1 la1 o1 dv1) 54)).alloc (.cells (qt k2 bv2 kv2 la2 o2 dv2) 54)).heap.size ((w.alloc (.cells (qt k1 bv1 kv1 la1 o1 dv1) 54)).alloc (.cells (qt k2 bv2 kv2 la2 o2 dv2) 54)) W→Calls Tryz.prog 47 #[kv1,kv2] W fun e w'=>e= .returned (.bool q5)∧ ∃m,w'=W.drewN m from fun W hW=>hq5▸yt _ _ _ _ W (H2.out.below hW) (H5.out.below hW));have S6:=hid (show ∀W,Below ((w.alloc (.cells (qt k1 bv1 kv1 la1 o1 dv1) 54)).alloc (.cells (qt k2 bv2 kv2 la2 o2 dv2) 54)).heap.size ((w.alloc (.cells (qt k1 bv1 kv1 la1 o1 dv1) 54)).alloc (.cells (qt k2 bv2 kv2 la2 o2 dv2) 54)) W→Calls Tryz.prog 47 #[dv1,dv2] W fun e w'=>e= .returned (.bool q6)∧ ∃m,w'=W.drewN m from fun W hW=>hq6▸yt _ _ _ _ W (H3.out.below hW) (H6.out.below hW));clear hq4 hq5 hq6 H1 H2 H3 H4 H5 H6;unfold qt at*;go_enter Tryz.func28,Tryz.ntmps28
  go_upto_region 1 with(fail)
  generalize ((w.alloc (.cells #[.int .i64 k1,bv1,kv1,.bool la1,.int .i64 o1,dv1] 54)).alloc (.cells #[.int .i64 k2,bv2,kv2,.bool la2,.int .i64 o2,dv2] 54))=W at*;have c00:W.cell? ⟨b0,0,none⟩=some (.int .i64 k1):=qa r0 0;have c01:W.cell? ⟨b0,1,none⟩=some (bv1):=qa r0 1;have c02:W.cell? ⟨b0,2,none⟩=some (kv1):=qa r0 2;have c03:W.cell? ⟨b0,3,none⟩=some (.bool la1):=qa r0 3;have c04:W.cell? ⟨b0,4,none⟩=some (.int .i64 o1):=qa r0 4;have c05:W.cell? ⟨b0,5,none⟩=some (dv1):=qa r0 5;have c10:W.cell? ⟨b1,0,none⟩=some (.int .i64 k2):=qa r1 0;have c11:W.cell? ⟨b1,1,none⟩=some (bv2):=qa r1 1;have c12:W.cell? ⟨b1,2,none⟩=some (kv2):=qa r1 2;have c13:W.cell? ⟨b1,3,none⟩=some (.bool la2):=qa r1 3;have c14:W.cell? ⟨b1,4,none⟩=some (.int .i64 o2):=qa r1 4;have c15:W.cell? ⟨b1,5,none⟩=some (dv2):=qa r1 5;have HA:=hid hbA;have hs0:b0<W.heap.size:=(Ai r0).1;have hs1:b1<W.heap.size:=(Ai r1).1;clear r0 r1 hbA hb1 hsz
  cases q1
  case false=>
    go_wp2_with fail
    go_ret
    exact⟨rfl,by rw[hb0];exact HA.out⟩
  cases q2
  case false=>
    go_wp2_with fail
    go_ret
    exact⟨rfl,by rw[hb0];exact HA.out⟩
  cases q3
  case false=>
    go_wp2_with fail
    go_ret
    exact⟨rfl,by rw[hb0];exact HA.out⟩
  cases q4
  case false=>
    go_wp2_with fail
    refine(S4.out _ Br).mono ?_;rintro e w4 ⟨rfl,m4,rfl⟩;go_wp2_with fail
    go_ret
    exact⟨rfl,by rw[hb0];exact cBD HA.out⟩
  cases q5
  case false=>
    go_wp2_with fail
    refine(S4.out _ Br).mono ?_;rintro e w4 ⟨rfl,m4,rfl⟩;go_wp2_with fail
    refine(S5.out _ (cBD Br)).mono ?_;rintro e w5 ⟨rfl,m5,rfl⟩;go_wp2_with fail
    go_ret
    exact⟨rfl,by rw[hb0];exact cBD HA.out⟩
  cases q6
  case false=>
    go_wp2_with fail
    refine(S4.out _ Br).mono ?_;rintro e w4 ⟨rfl,m4,rfl⟩;go_wp2_with fail
    refine(S5.out _ (cBD Br)).mono ?_;rintro e w5 ⟨rfl,m5,rfl⟩;go_wp2_with fail
    refine(S6.out _ (cBD Br)).mono ?_;rintro e w6 ⟨rfl,m6,rfl⟩;go_wp2_with fail
    go_ret
    exact⟨rfl,by rw[hb0];exact cBD HA.out⟩
  go_wp2_with fail
  refine(S4.out _ Br).mono ?_;rintro e w4 ⟨rfl,m4,rfl⟩;go_wp2_with fail
  refine(S5.out _ (cBD Br)).mono ?_;rintro e w5 ⟨rfl,m5,rfl⟩;go_wp2_with fail
  refine(S6.out _ (cBD Br)).mono ?_;rintro e w6 ⟨rfl,m6,rfl⟩;go_wp2_with fail
  go_ret
  exact⟨rfl,by rw[hb0];exact cBD HA.out⟩
theorem qbI (a b:CallS)(va vb:Value)(w:World)(ha:CallM w va a)(hb:CallM w vb b):
    Calls Tryz.prog 68 #[va,vb] w fun e w'=>e= .returned (.bool (!Zl a b))∧Below w.heap.size w w':=by
  have HAL:=hid (fun W (h:Below w.heap.size w W)=>J3 a b va vb W (ha.below h) (hb.below h));obtain⟨bv1,kv1,dv1,rfl,h1,h2,h3⟩:=ha;obtain⟨bv2,kv2,dv2,rfl,h4,h5,h6⟩:=hb;clear h1 h2 h3 h4 h5 h6;generalize Zl a b=q at*;obtain⟨k1,xs1,xs2,la1,o1,xs3⟩:=a;obtain⟨k2,ys1,ys2,la2,o2,ys3⟩:=b;dsimp only at*;unfold qt at*;obtain⟨b0,hb0⟩:=Ex w.heap.size;obtain⟨b1,hb1⟩:=Ex ((w.alloc (.cells #[.int .i64 k1,bv1,kv1,.bool la1,.int .i64 o1,dv1] 54)).heap.size);have hsz:w.heap.size<(w.alloc (.cells #[.int .i64 k1,bv1,kv1,.bool la1,.int .i64 o1,dv1] 54)).heap.size:=(Ai (Wn w (.cells #[.int .i64 k1,bv1,kv1,.bool la1,.int .i64 o1,dv1] 54))).1;have hbA:Below b0 w ((w.alloc (.cells #[.int .i64 k1,bv1,kv1,.bool la1,.int .i64 o1,dv1] 54)).alloc (.cells #[.int .i64 k2,bv2,kv2,.bool la2,.int .i64 o2,dv2] 54)):=by rw[←hb0];exact(Br.alloc Nl _).alloc (Nat.le_of_lt hsz) _
  have r0:((w.alloc (.cells #[.int .i64 k1,bv1,kv1,.bool la1,.int .i64 o1,dv1] 54)).alloc (.cells #[.int .i64 k2,bv2,kv2,.bool la2,.int .i64 o2,dv2] 54)).heap[b0]? =some (.cells #[.int .i64 k1,bv1,kv1,.bool la1,.int .i64 o1,dv1] 54 (0,0)):=by
    rw[←hb0];exact(Bh _ _ _ hsz).trans (Wn w _)
  have r1:((w.alloc (.cells #[.int .i64 k1,bv1,kv1,.bool la1,.int .i64 o1,dv1] 54)).alloc (.cells #[.int .i64 k2,bv2,kv2,.bool la2,.int .i64 o2,dv2] 54)).heap[b1]? =some (.cells #[.int .i64 k2,bv2,kv2,.bool la2,.int .i64 o2,dv2] 54 (0,0)):=by
    rw[←hb1];exact Wn (w.alloc _) _
  go_enter Tryz.func68,Tryz.ntmps68
  go_upto_region 1 with(fail)
  generalize ((w.alloc (.cells #[.int .i64 k1,bv1,kv1,.bool la1,.int .i64 o1,dv1] 54)).alloc (.cells #[.int .i64 k2,bv2,kv2,.bool la2,.int .i64 o2,dv2] 54))=W at*;have HA:=hid hbA;have R0:=hid r0;have R1:=hid r1;clear hbA r0 r1 hb1 hsz;go_wp2_with (first|((with_reducible show wpList _ _ _ (Oper.mk _ (Op.load 54 (Operand.tmp 2)) _ _ _ _::_) _ _);refine wpList_load_row rfl 54 _ rfl b0 rfl _ _ _ _ R0.out Tryz.underlying54 rfl (by kernel_rfl) ?_)|((with_reducible show wpList _ _ _ (Oper.mk _ (Op.load 54 (Operand.tmp 3)) _ _ _ _::_) _ _);refine wpList_load_row rfl 54 _ rfl b1 rfl _ _ _ _ R1.out Tryz.underlying54 rfl (by kernel_rfl) ?_))
  refine(HAL.out W (hb0▸HA.out)).mono ?_;rintro e w9 ⟨rfl,hw⟩;have HB9:=hid (show Below b0 w w9 from HA.out.trans (hw.mono (by have:=HA.out.size;omega)));clear hw
  cases q
  all_goals
    go_wp2_with fail
    go_ret
    exact⟨rfl,by rw[hb0];exact HB9.out⟩
end Go.Proofs.YtdndeffmlhaipaaGreat
