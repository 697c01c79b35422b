/- A block's numbers lie in it: laid anew they give the block. Plain. No condition. -/
import Derived.Test.YtahenngmaoellaaGreatC23
import Derived.Test.YtahenngmaoellaaGreatC25
import Derived.Test.YtahenngmaoellaaGreatC04
import Derived.Test.YtahenngmaoellaaGreatC15
import Derived.Test.YtahenngmaoellaaGreatC18
import Derived.Test.YtahenngmaoellaaGreatC17
import Derived.Maps.AppendAt
set_option linter.all false
set_option maxRecDepth 100000
set_option maxHeartbeats 8000000
namespace Go.Proofs.YtahenngmaoellaaGreat
open Go.ChangeShapes Go.WideShapes Go.ChangeAt Go.RowKit Go.Joins Go.Shelf Go.Maps
open Go.Lib (hid)
theorem qfy {zs:List Int}(hz: ∀z∈zs,0≤z∧z≤255)(p:Nat): ∀n,p+n≤zs.length→ ∀j,byt (Qg zs p n).toNat j=if j<n then qn zs (p+j) else 0
  | 0,_,j=>by simp[Qg,byt,zQ]
  | n+1,h,j=>by
    have ih:=qfy hz p n (by omega) j;have hb:=QC (zs:=zs) hz (at_:=p) n (by omega);obtain⟨-,z1,z2⟩:=qS hz (show p+n<zs.length by omega);obtain⟨z,hzz⟩: ∃z:Nat,qn zs (p+n)=z:=⟨(qn zs (p+n)).toNat,by omega⟩;obtain⟨a,ha⟩: ∃a:Nat,Qg zs p n=a:=⟨(Qg zs p n).toNat,by omega⟩;have hpw:(2:Int)^(8*n)=((256^n:Nat):Int):=by
      rw[Int.pow_mul];norm_cast
    have ha2:a<256^n:=by
      have:=hb.2;rw[ha,hpw]at this;exact_mod_cast this
    have e:(Qg zs p (n+1)).toNat=a+z*256^n:=by
      rw[Qg,ha,hzz,hpw,←Int.natCast_mul,←Int.natCast_add,Int.toNat_natCast]
    rw[ha,Int.toNat_natCast]at ih;rw[e];unfold byt zQ at ih⊢;by_cases h1:j<n
    · rw[if_pos h1]at ih
      rw[if_pos (by omega),←ih];have e2:256^n=256^j*(256*256^(n - j - 1)):=by
        rw[←Nat.pow_succ',←Nat.pow_add];congr 1;omega
      rw[e2,show z*(256^j*(256*256^(n - j - 1)))=256^j*(256*(z*256^(n - j - 1))) by
        rw[Nat.mul_left_comm z,Nat.mul_left_comm z],Nat.add_mul_div_left _ _ (Nat.pow_pos (by omega)),Nat.add_mul_mod_self_left]
    · by_cases h2:j=n
      · subst h2
        rw[if_pos (by omega),Nat.add_mul_div_right _ _ (Nat.pow_pos (by omega)),Nat.div_eq_of_lt ha2,Nat.zero_add,hzz];have:z%256=z:=Nat.mod_eq_of_lt (by omega)
        rw[this]
      · rw[if_neg (by omega)]
        have:a+z*256^n<256^j:=by
          have h3:256^(n+1)≤256^j:=Nat.pow_le_pow_right (by omega) (by omega);have h4:z*256^n≤255*256^n:=Nat.mul_le_mul_right _ (by omega);have h5:256^(n+1)=256*256^n:=Nat.pow_succ';omega
        rw[Nat.div_eq_of_lt this];rfl
theorem qb1 {x:List Int}{j:Nat}(hj:j<x.length):qn x j=if j<(yU x).length then qn (yU x) j else 0:=by
  have hl:(yU x).length=Qi x x.length:=by unfold yU;have:=ZE x x.length;simp;omega
  rw[hl];by_cases h:j<Qi x x.length
  · rw[if_pos h];unfold yU qn;simp[Lg,List.getElem?_take,h]
  · rw[if_neg h];exact qaP x _ _ (by omega) hj
theorem Qu (big x0:Bool)(v:Nat→Nat){k:Nat}(hk:k+1≤9)(i:Nat):
    qn (Qw big x0 v (k+1)) i=if ¬(k+1=7∧x0=true)∧atB big (k+1)≤i∧i<atB big (k+1)+szB big (k+1) then byt (v (k+1)) (i - atB big (k+1)) else qn (Qw big x0 v k) i:=by
  have hs:=QY big false (k+1) (by omega) (by omega);have e:szE big false (k+1)=szB big (k+1):=by simp[szE]
  rw[e]at hs;have hm:32≤mB big:=by cases big<;>decide
  rw[Qw];by_cases h:k+1=7∧x0=true
  · rw[if_pos h,if_neg (fun h2=>h2.1 h)]
  · rw[if_neg h,Ys (by rw[qU,QN big x0 v k (by omega)];omega),qU]
    by_cases h2:atB big (k+1)≤i∧i<atB big (k+1)+szB big (k+1)
    · rw[if_pos h2,if_pos ⟨h,h2⟩]
      simp[qn,qV,Lg,show i - atB big (k+1)<szB big (k+1) by omega]
    · rw[if_neg h2,if_neg (fun h3=>h2 h3.2)]
theorem js (big x0:Bool)(v:Nat→Nat)(i:Nat):qn (Qw big x0 v 0) i=0:=by
  unfold Qw qn;simp only[Lg,List.getElem?_replicate];split<;>rfl
theorem qhs {big ext:Bool}{zs:List Int}(hz: ∀z∈zs,0≤z∧z≤255)(hl:zs.length=mB big)(hm:big=true→ ∀i,18≤i→i<32→qn zs i=0)(hx:ext=true→xoZ big ext zs≠0){i:Nat}(hi:i<2*sB big):
    qn (Qw big (Yo big ext zs 7==0) (Yo big ext zs) 9) i=qn zs i:=by
  have hv: ∀f,1≤f→f≤9→ ¬(f=7∧ext=false)→Yo big ext zs f=(Qg zs (atB big f) (szE big ext f)).toNat:=fun f h1 h2 h3=>by
    have:=Js (big:=big) (ext:=ext) hz hl h1 h2 h3;omega
  have hb: ∀f j,1≤f→f≤9→ ¬(f=7∧ext=false)→byt (Yo big ext zs f) j=if j<szE big ext f then qn zs (atB big f+j) else 0:=fun f j h1 h2 h3=>by
    rw[hv f h1 h2 h3];have hs:=QY big ext f h1 h2;exact qfy hz _ _ (by rw[hl];cases big;(have:=hs.2.2.2 rfl;show _≤32;omega);(show _≤64;omega)) j
  have hx0:(Yo big ext zs 7==0)= !ext:=by
    cases ext
    · rfl
    · have h7:((Yo big true zs 7:Nat):Int)=xoZ big true zs:=by
        rw[Js hz hl (by omega) (by omega) (by simp)];cases big<;>rfl
      have:=hx rfl
      rw[Bool.not_true,beq_eq_false_iff_ne];omega
  rw[hx0];rw[Qu _ _ _ (k:=8) (by omega),Qu _ _ _ (k:=7) (by omega),Qu _ _ _ (k:=6) (by omega),Qu _ _ _ (k:=5) (by omega),Qu _ _ _ (k:=4) (by omega),Qu _ _ _ (k:=3) (by omega),Qu _ _ _ (k:=2) (by omega),Qu _ _ _ (k:=1) (by omega),Qu _ _ _ (k:=0) (by omega),js];rw[hb 9 _ (by omega) (by omega) (by omega),hb 8 _ (by omega) (by omega) (by omega),hb 6 _ (by omega) (by omega) (by omega),hb 5 _ (by omega) (by omega) (by omega),hb 4 _ (by omega) (by omega) (by omega),hb 3 _ (by omega) (by omega) (by omega),hb 2 _ (by omega) (by omega) (by omega),hb 1 _ (by omega) (by omega) (by omega)]
  cases big
  · have hi:i<16:=hi
    rcases(show i=0∨i=1∨i=2∨i=3∨i=4∨i=5∨i=6∨i=7∨i=8∨i=9∨i=10∨i=11∨i=12∨i=13∨i=14∨i=15 by omega)with rfl|rfl|rfl|rfl|rfl|rfl|rfl|rfl|rfl|rfl|rfl|rfl|rfl|rfl|rfl|rfl<;>cases ext<;>simp[atB,szB,szE]<;>(rw[hb 7 _ (by omega) (by omega) (by simp)];simp[atB,szB,szE])
  · have hi:i<32:=hi
    by_cases h18:18≤i
    · rw[hm rfl i h18 hi]
      have n1: ∀f,1≤f→f≤9→ ¬(atB true f≤i∧i<atB true f+szB true f):=fun f h1 h2 h3=>by
        have hs:=QY true false f h1 h2;rw[show szE true false f=szB true f by simp[szE]]at hs;omega
      rw[if_neg (fun h=>n1 9 (by omega) (by omega) h.2),if_neg (fun h=>n1 8 (by omega) (by omega) h.2),if_neg (fun h=>n1 7 (by omega) (by omega) h.2),if_neg (fun h=>n1 6 (by omega) (by omega) h.2),if_neg (fun h=>n1 5 (by omega) (by omega) h.2),if_neg (fun h=>n1 4 (by omega) (by omega) h.2),if_neg (fun h=>n1 3 (by omega) (by omega) h.2),if_neg (fun h=>n1 2 (by omega) (by omega) h.2),if_neg (fun h=>n1 1 (by omega) (by omega) h.2)]
    · rcases(show i=0∨i=1∨i=2∨i=3∨i=4∨i=5∨i=6∨i=7∨i=8∨i=9∨i=10∨i=11∨i=12∨i=13∨i=14∨i=15∨i=16∨i=17 by omega)with rfl|rfl|rfl|rfl|rfl|rfl|rfl|rfl|rfl|rfl|rfl|rfl|rfl|rfl|rfl|rfl|rfl|rfl<;>cases ext<;>simp[atB,szB,szE]<;>(rw[hb 7 _ (by omega) (by omega) (by simp)];simp[atB,szB,szE])
theorem qhD {big ext:Bool}{zs:List Int}(hz: ∀z∈zs,0≤z∧z≤255)(h:okD big ext zs):QK big (Yo big ext zs) (YE big zs) (YW big zs)=zs:=by
  obtain⟨hl,hm,hx, -⟩:=h;have hM:mB big=4*sB big:=by cases big<;>rfl
  have hle: ∀x:List Int,(yU x).length≤x.length:=fun x=>by unfold yU;rw[List.length_take];omega
  have e1:((zs.drop (2*sB big)).take (sB big)).length=sB big:=by simp;omega
  have e2:((zs.drop (3*sB big)).take (sB big)).length=sB big:=by simp;omega
  have l1:(YE big zs).length≤sB big:=Nat.le_trans (hle _) (by omega);have l2:(YW big zs).length≤sB big:=Nat.le_trans (hle _) (by omega);have hF:=QN big (Yo big ext zs 7==0) (Yo big ext zs) 9 (by omega);have hlen:=yd (big:=big) (v:=Yo big ext zs) l1 l2;have hz0: ∀i,2*sB big≤i→qn (Qw big (Yo big ext zs 7==0) (Yo big ext zs) 9) i=0:=fun i hi=>by
    have hs16:16≤2*sB big∧(big=true→18≤2*sB big):=by cases big<;>decide
    have n1: ∀f,1≤f→f≤9→ ¬(atB big f≤i∧i<atB big f+szB big f):=fun f h1 h2 h3=>by
      have hs:=QY big false f h1 h2;rw[show szE big false f=szB big f by simp[szE]]at hs
      cases big
      · have:=hs.2.2.2 rfl;omega
      · have:=hs16.2 rfl;omega
    rw[Qu _ _ _ (k:=8) (by omega),Qu _ _ _ (k:=7) (by omega),Qu _ _ _ (k:=6) (by omega),Qu _ _ _ (k:=5) (by omega),Qu _ _ _ (k:=4) (by omega),Qu _ _ _ (k:=3) (by omega),Qu _ _ _ (k:=2) (by omega),Qu _ _ _ (k:=1) (by omega),Qu _ _ _ (k:=0) (by omega),js];rw[if_neg (fun h=>n1 9 (by omega) (by omega) h.2),if_neg (fun h=>n1 8 (by omega) (by omega) h.2),if_neg (fun h=>n1 7 (by omega) (by omega) h.2),if_neg (fun h=>n1 6 (by omega) (by omega) h.2),if_neg (fun h=>n1 5 (by omega) (by omega) h.2),if_neg (fun h=>n1 4 (by omega) (by omega) h.2),if_neg (fun h=>n1 3 (by omega) (by omega) h.2),if_neg (fun h=>n1 2 (by omega) (by omega) h.2),if_neg (fun h=>n1 1 (by omega) (by omega) h.2)]
  have key: ∀i,i<mB big→qn (QK big (Yo big ext zs) (YE big zs) (YW big zs)) i=qn zs i:=fun i hi=>by
    have hS1:(Qh (Qw big (Yo big ext zs 7==0) (Yo big ext zs) 9) (2*sB big) (YE big zs)).length=mB big:=by rw[Qj (by omega),hF]
    unfold QK;rw[Ys (by omega),Ys (by omega)];by_cases h3:3*sB big≤i
    · have hj:i - 3*sB big<((zs.drop (3*sB big)).take (sB big)).length:=by omega
      have ht:=qb1 hj;rw[qa7 (by omega),show 3*sB big+(i - 3*sB big)=i by omega]at ht;by_cases h4:i<3*sB big+(YW big zs).length
      · rw[if_pos ⟨h3,h4⟩];rw[if_pos (by show _<(YW big zs).length;omega)]at ht;exact ht.symm
      · rw[if_neg (by omega),if_neg (by omega),hz0 i (by omega)];rw[if_neg (by show ¬_<(YW big zs).length;omega)]at ht;exact ht.symm
    · rw[if_neg (by omega)]
      by_cases h2:2*sB big≤i
      · have hj:i - 2*sB big<((zs.drop (2*sB big)).take (sB big)).length:=by omega
        have ht:=qb1 hj;rw[qa7 (by omega),show 2*sB big+(i - 2*sB big)=i by omega]at ht;by_cases h4:i<2*sB big+(YE big zs).length
        · rw[if_pos ⟨h2,h4⟩];rw[if_pos (by show _<(YE big zs).length;omega)]at ht;exact ht.symm
        · rw[if_neg (by omega),hz0 i (by omega)];rw[if_neg (by show ¬_<(YE big zs).length;omega)]at ht;exact ht.symm
      · rw[if_neg (by omega)];exact qhs hz hl hm hx (by omega)
  apply List.ext_getElem (by rw[hlen,hl])
  intro i h1 h2;have:=key i (by omega)
  simpa [qn,Lg,h1,h2] using this
theorem Jv {big:Bool}{v:Nat→Nat}{z1 z2:List Int}(h1:z1.length≤sB big)(h2:z2.length≤sB big){i:Nat}(hi:i<2*sB big):qn (QK big v z1 z2) i=qn (Qw big (v 7==0) v 9) i:=by
 have e:=QN big (v 7==0) v 9 (by omega);have hm:4*sB big=mB big:=by cases big<;>decide
 unfold QK;rw[Ys (by rw[Qj (by omega)];omega),if_neg (by omega),Ys (by omega),if_neg (by omega)]
theorem qK {big x0:Bool}{v:Nat→Nat}(k:Nat){i:Nat}(hk:k+1≤9)(h: ¬(atB big (k+1)≤i∧i<atB big (k+1)+szB big (k+1))):qn (Qw big x0 v (k+1)) i=qn (Qw big x0 v k) i:=by
 rw[Qu big x0 v hk i,if_neg (fun h2=>h h2.2)]
theorem Jq {big x0:Bool}{v:Nat→Nat}(k:Nat){i:Nat}(hk:k+1≤9)(h7:k+1≠7)(h:atB big (k+1)=i):qn (Qw big x0 v (k+1)) i=byt (v (k+1)) 0:=by
 have hs:1≤szB big (k+1):=by
  have:=QY big false (k+1) (by omega) hk
  simpa [szE] using this.1
 rw[Qu big x0 v hk i,if_pos ⟨fun h2=>h7 h2.1,by omega,by omega⟩,←h,Nat.sub_self]
theorem jw {x:Nat}(h:x≤255):byt x 0=(x:Int):=by
 have:=zK x 0
 simp at this
 omega
theorem qfq {big:Bool}{v:Nat→Nat}{z1 z2:List Int}(hP:ParOk big v)(h1:z1.length≤sB big)(h2:z2.length≤sB big):okD big false (QK big v z1 z2)∧qn (QK big v z1 z2) 1=(v 2:Nat):=by
 have hs:8≤sB big:=by cases big<;>decide
 have hm:mB big≤64:=by cases big<;>decide
 obtain⟨p1,p2,p3,p4, -,p6,p7⟩:=hP.p;have g0:qn (QK big v z1 z2) 0=(v 1:Nat):=by
  rw[Jv h1 h2 (by omega),qK 8 (by omega) (by cases big<;>decide),qK 7 (by omega) (by cases big<;>decide),qK 6 (by omega) (by cases big<;>decide),qK 5 (by omega) (by cases big<;>decide),qK 4 (by omega) (by cases big<;>decide),
   qK 3 (by omega) (by cases big<;>decide),qK 2 (by omega) (by cases big<;>decide),qK 1 (by omega) (by cases big<;>decide),Jq 0 (by omega) (by omega) (by cases big<;>rfl)]
  exact jw (x:=v 1) (by omega)
 have g1:qn (QK big v z1 z2) 1=(v 2:Nat):=by
  rw[Jv h1 h2 (by omega),qK 8 (by omega) (by cases big<;>decide),qK 7 (by omega) (by cases big<;>decide),qK 6 (by omega) (by cases big<;>decide),qK 5 (by omega) (by cases big<;>decide),qK 4 (by omega) (by cases big<;>decide),
   qK 3 (by omega) (by cases big<;>decide),qK 2 (by omega) (by cases big<;>decide),Jq 1 (by omega) (by omega) (by cases big<;>rfl)]
  exact jw (x:=v 2) (by omega)
 have g3:qn (QK big v z1 z2) 3=(v 4:Nat):=by
  rw[Jv h1 h2 (by omega),qK 8 (by omega) (by cases big<;>decide),qK 7 (by omega) (by cases big<;>decide),qK 6 (by omega) (by cases big<;>decide),qK 5 (by omega) (by cases big<;>decide),qK 4 (by omega) (by cases big<;>decide),
   Jq 3 (by omega) (by omega) (by cases big<;>rfl)]
  exact jw (x:=v 4) (by omega)
 have h9:atB big 9<2*sB big:=by cases big<;>decide
 have g9:qn (QK big v z1 z2) (atB big 9)=(v 9:Nat):=by
  rw[Jv h1 h2 h9,Jq 8 (by omega) (by omega) rfl];exact jw (x:=v 9) (by omega)
 refine⟨⟨yd h1 h2,fun hb i i1 i2=>?_,fun h=>(by cases h),?_⟩,g1⟩
 ·subst hb;have hsi:i<2*sB true:=i2;have ha: ∀k,k<9→ ¬(atB true (k+1)≤i∧i<atB true (k+1)+szB true (k+1)):=fun k hk h=>by
   have:atB true (k+1)+szB true (k+1)≤18:=by
    rcases(show k=0∨k=1∨k=2∨k=3∨k=4∨k=5∨k=6∨k=7∨k=8 by omega)with rfl|rfl|rfl|rfl|rfl|rfl|rfl|rfl|rfl<;>decide
   omega
  rw[Jv h1 h2 hsi,qK 8 (by omega) (ha 8 (by omega)),qK 7 (by omega) (ha 7 (by omega)),qK 6 (by omega) (ha 6 (by omega)),qK 5 (by omega) (ha 5 (by omega)),qK 4 (by omega) (ha 4 (by omega)),qK 3 (by omega) (ha 3 (by omega)),
   qK 2 (by omega) (ha 2 (by omega)),qK 1 (by omega) (ha 1 (by omega)),qK 0 (by omega) (ha 0 (by omega)),js]
 ·rw[g0,g1,g3,g9];exact⟨p1,p2,fun _=>p4.1,p7⟩
end Go.Proofs.YtahenngmaoellaaGreat
namespace Go.Proofs.YtahenngmaoellaaGreat
open Go.ChangeShapes Go.WideShapes Go.ChangeAt Go.RowKit Go.Joins Go.Shelf Go.Maps
open Go.Lib (hid)
attribute [local go_sem] Oper.semAt_some
theorem qf7 {zs:List Int}{i p n:Nat}(h:i<n):qn ((zs.drop p).take n) i=qn zs (p+i):=by
 unfold qn;simp[Lg,List.getElem?_take,h,List.getElem?_drop]
theorem JY {w w':World}{a:Option Addr}{n c:Nat}{zs:List Int}(h:Hold w (.slice a n c) zs)(hb:Below w.heap.size w w'){j:Nat}(hj:j<zs.length): ∃b off,a=some ⟨b,off,none⟩∧b<w'.heap.size∧w'.cell? ⟨b,off+j,none⟩=some (.int .u8 (qn zs j))∧0≤qn zs j∧qn zs j≤255:=by
 have hne:zs≠[]:=fun e=>by rw[e]at hj;simp at hj
 rcases h.2 with⟨h2, -⟩|⟨ad,cap,e, -, -,h3⟩
 ·exact absurd h2 hne
 ·obtain⟨b,off,rfl,h4,h5⟩:=h3.resolve_left hne;simp only[Value.slice.injEq]at e;exact⟨b,off,e.1,Nat.lt_of_lt_of_le h4 hb.size,(hb.cell (p:=⟨b,off+j,none⟩) h4).trans (h5 j hj),(qS h.1 hj).2⟩
theorem jh (lo n:Nat)(h:lo+n<9223372036854775808)(w:World):
  Calls Tryz.prog 183 #[.int .u64 (lo:Nat),.int .u64 0,.int .u64 (n:Nat)] w fun e w'=>e= .returned (.tuple #[.int .u64 ((lo+n:Nat):Int),.int .u64 0,.bool false])∧w'=w:=by
 have q1:IntKind.u64.wrap ((lo:Int)+n)=(lo:Int)+n:=u64_wrap_id _ (by omega) (by omega);have q2: ¬((lo:Int)+n<lo):=by omega
 have q3:(lo:Int)≤(lo:Int)+n:=by omega
 rw[Int.natCast_add];clear h;go_enter Tryz.func183,Tryz.ntmps183
 go_wp2
 exact Bp (results_tmp3 (fn:=Tryz.f183) (t:=6) (u:=7) (v:=8) rfl _ _ _) rfl ⟨rfl,rfl⟩
theorem Jh {n:Nat}{x:List Int}{j:Nat}(hj:j<n)(hx:x.length≤n):(Qy n x).take (j+1)=(Qy n x).take j++[if j<x.length then qn x j else 0]:=by
 have hl:=QD hx;rw[ja (zs:=Qy n x) (by omega)];congr 2
 unfold Qy qn;simp only[Lg];by_cases h:j<x.length
 ·rw[if_pos h,List.getElem?_append_left h]
 ·rw[if_neg h,List.getElem?_append_right (by omega),List.getElem?_replicate,if_pos (by omega)];rfl
theorem jg (zs:List Int)(v:Value)(p n:Nat)(w:World)(h:Hold w v zs)(hn:n≤65535)(hp:p≤zs.length)(hm:(zs.length:Int)≤281474976710656):
  Calls Tryz.prog 186 #[v,.int .i64 (p:Nat),.int .i64 (n:Nat)] w fun e w'=> ∃v',e= .returned v'∧w'.ownsRow w.heap.size 5 1 v' n ((Qy n ((zs.drop p).take n)).map qo)∧Below w.heap.size w w':=by
 obtain⟨i0,hi,hz0,hz1,hz2⟩:=info_parts Qn;obtain⟨a,cap,rfl,hc1,hc2⟩:=h.slice;have HH:=hid h;obtain⟨X,hX⟩:=Ex ((zs.drop p).take n);have hXl:X.length=min n (zs.length - p):=by rw[←hX];simp
 have hXg: ∀j,j<X.length→qn X j=qn zs (p+j):=fun j hj=>by rw[←hX];exact qf7 (by omega)
 have hPl:=QD (n:=n) (zs:=X) (by omega);rw[hX];have HXL:=hid hXl;have HXG:=hid hXg;have HPL:=hid hPl;clear h hX hXl hXg hPl;go_enter Tryz.func186,Tryz.ntmps186
 go_wp2_with fail
 go_loopw [7,8] (fun b i wr=> ∃j:Nat,i= .int .i64 (j:Nat)∧j≤n∧wr.ownsRow w.heap.size 5 1 b j (((Qy n X).take j).map qo)∧Below w.heap.size w wr) (fun _ i _=>n - (intOf i).toNat)
 case atStart=>exact⟨0,rfl,Nat.zero_le _,by simpa using Wo w w.heap.size 5 1,Below.refl _ _⟩
 case round=>
  obtain⟨j,rfl,hj,hown,hb⟩:=hrel;have HB:=hid hb;have HO:=hid hown;obtain⟨a1,n1,c1,rfl⟩:=qq hown;by_cases hlt:j<n
  case neg=>
   obtain rfl:j=n:=by omega
   clear hown hb;go_wp2
   go_ret
   refine⟨_,rfl,?_,HB.out⟩;have:=HO.out
   rwa[List.take_of_length_le (by rw[HPL.out];exact Nat.le_refl _)]at this
  have hps:=Jh (x:=X) hlt (by have:=HXL.out;omega);have HPS:=hid hps;clear hps hown;by_cases hin:p+j<zs.length
  case pos=>
   have hjX:j<X.length:=by have:=HXL.out;omega
   have hZ:=HPS.out;rw[if_pos hjX,HXG.out j hjX]at hZ;have HZ:=hid hZ;obtain⟨bb,of',rfl,q1,q2,q3,q4⟩:=JY HH.out hb hin;have hpj:(p:Int)+j<zs.length:=by omega
   have hpj2:0≤(p:Int)+j∧(p:Int)+j<9223372036854775808:=by omega
   obtain⟨hpj3,hpj4⟩:=hpj2;generalize qn zs (p+j)=z at*;clear hb hZ HPS;go_wp2_with (at_builtin;refine wpList_append_own _ rfl _ _ 24 rfl w.heap.size 5 i0 (.int .u8 0) 1 1 Tryz.underlying24 hi hz0 hz1 hz2 rfl (by decide) _ _ _ rfl (HO.out.alloc _) ⟨wr.heap.size,0,none⟩ 1 1 [.int .u8 z] rfl rfl (cell_one_new _ _ _) (by simp[Value.oneCell']) (by unfold maxLen;omega) (by omega) (by simp;have:=HB.out.size;omega) ?_;intro v' w6 hown' hgrow _;have hb3:Below w.heap.size w w6:=(HB.out.alloc HB.out.size _).grown hgrow (by simp;have:=HB.out.size;omega) (fun k e=>(HO.out.lt k e).1))
   refine⟨⟨j+1,rfl,by omega,by rw[HZ.out,List.map_append];exact hown',hb3⟩,by simp[intOf];omega⟩
  have hZ:=HPS.out;rw[if_neg (by have:=HXL.out;omega)]at hZ;have HZ:=hid hZ;have hpj: ¬((p:Int)+j<zs.length):=by omega
  clear hb hZ HPS;go_wp2_with (at_builtin;refine wpList_append_own _ rfl _ _ 24 rfl w.heap.size 5 i0 (.int .u8 0) 1 1 Tryz.underlying24 hi hz0 hz1 hz2 rfl (by decide) _ _ _ rfl (HO.out.alloc _) ⟨wr.heap.size,0,none⟩ 1 1 [.int .u8 0] rfl rfl (cell_one_new _ _ _) (by simp[Value.oneCell']) (by unfold maxLen;omega) (by omega) (by simp;have:=HB.out.size;omega) ?_;intro v' w6 hown' hgrow _;have hb3:Below w.heap.size w w6:=(HB.out.alloc HB.out.size _).grown hgrow (by simp;have:=HB.out.size;omega) (fun k e=>(HO.out.lt k e).1))
  refine⟨⟨j+1,rfl,by omega,by rw[HZ.out,List.map_append];exact hown',hb3⟩,by simp[intOf];omega⟩
theorem qdm (big:Bool)(zs:List Int)(v:Value)(w:World)(h:Hold w v zs)(hk:zs.length≤mB big):
  Calls Tryz.prog 181 #[.int .i64 (kB big),v] w fun e w'=> ∃v',e= .returned v'∧w'.ownsRow w.heap.size 5 1 v' (yh (bB big) zs).length ((yh (bB big) zs).map qo)∧Below w.heap.size w w':=by
 obtain⟨i0,hi,hz0,hz1,hz2⟩:=info_parts Qn;obtain⟨a,cap,rfl,hc1,hc2⟩:=h.slice;have hMB:mB big≤bB big∧bB big≤128:=by cases big<;>decide
 obtain⟨n,hn⟩:=Ex (bB big);have hBK:=hid (fun(W:World)=>YV big W);rw[hn]at hBK hMB⊢;have HH:=hid h;have HMB:=hid hMB;by_cases h0:zs.length=0
 case pos=>
  have e:yh n zs=[]:=by unfold yh;rw[if_pos h0]
  rw[e];obtain rfl:zs=[]:=List.eq_nil_of_length_eq_zero h0;clear hMB h hn hk;go_enter Tryz.func181,Tryz.ntmps181
  go_wp2
  go_ret
  exact⟨_,rfl,Wo _ _ _ _,Below.refl _ _⟩
 have e:yh n zs=Qy n zs:=by unfold yh;rw[if_neg h0]
 have hPl:=QD (n:=n) (zs:=zs) (by omega);rw[e,hPl];have HPL:=hid hPl;have hz1':0<zs.length:=by omega
 have hq0:((zs.length:Int)==0)=false:=beq_eq_false_iff_ne.2 (by omega);have hzl:(zs.length:Int)≤128:=by omega
 have hnl:(n:Int)≤128:=by omega
 have HK:=hid hk;clear h hPl e h0 hMB hn hk;go_enter Tryz.func181,Tryz.ntmps181
 go_wp2_with fail
 go_loopw [5,6] (fun b i wr=> ∃j:Nat,i= .int .i64 (j:Nat)∧j≤n∧wr.ownsRow w.heap.size 5 1 b j (((Qy n zs).take j).map qo)∧Below w.heap.size w wr) (fun _ i _=>n - (intOf i).toNat)
 case atStart=>exact⟨0,rfl,Nat.zero_le _,by simpa using Wo w w.heap.size 5 1,Below.refl _ _⟩
 case round=>
  obtain⟨j,rfl,hj,hown,hb⟩:=hrel;have HB:=hid hb;have HO:=hid hown;obtain⟨a1,n1,c1,rfl⟩:=qq hown;by_cases hlt:j<n
  case neg=>
   obtain rfl:j=n:=by omega
   clear hown hb;go_wp2_with fail
   refine(hBK.out _).mono ?_;rintro e w4 ⟨rfl,hw⟩;rw[hw];clear hw;go_wp2
   go_ret
   refine⟨_,rfl,?_,HB.out⟩;have:=HO.out
   rwa[List.take_of_length_le (by rw[HPL.out];exact Nat.le_refl _)]at this
  have hps:=Jh (x:=zs) hlt (by have:=HMB.out;have:=HK.out;omega);have HPS:=hid hps;have hjn:(j:Int)<n:=by omega
  clear hps hown;by_cases hin:j<zs.length
  case pos=>
   have hZ:=HPS.out;rw[if_pos hin]at hZ;have HZ:=hid hZ;obtain⟨bb,of',rfl,q1,q2,q3,q4⟩:=JY HH.out hb hin;have hpj:(j:Int)<zs.length:=by omega
   generalize qn zs j=z at*;clear hb hZ HPS;go_wp2_with fail
   refine(hBK.out _).mono ?_;rintro e w4 ⟨rfl,hw⟩;rw[hw];clear hw;go_wp2_with (at_builtin;refine wpList_append_own _ rfl _ _ 24 rfl w.heap.size 5 i0 (.int .u8 0) 1 1 Tryz.underlying24 hi hz0 hz1 hz2 rfl (by decide) _ _ _ rfl (HO.out.alloc _) ⟨wr.heap.size,0,none⟩ 1 1 [.int .u8 z] rfl rfl (cell_one_new _ _ _) (by simp[Value.oneCell']) (by unfold maxLen;omega) (by omega) (by simp;have:=HB.out.size;omega) ?_;intro v' w6 hown' hgrow _;have hb3:Below w.heap.size w w6:=(HB.out.alloc HB.out.size _).grown hgrow (by simp;have:=HB.out.size;omega) (fun k e=>(HO.out.lt k e).1))
   refine⟨⟨j+1,rfl,by omega,by rw[HZ.out,List.map_append];exact hown',hb3⟩,by simp[intOf];omega⟩
  have hZ:=HPS.out;rw[if_neg hin]at hZ;have HZ:=hid hZ;have hpj: ¬((j:Int)<zs.length):=by omega
  clear hb hZ HPS;go_wp2_with fail
  refine(hBK.out _).mono ?_;rintro e w4 ⟨rfl,hw⟩;rw[hw];clear hw;go_wp2_with (at_builtin;refine wpList_append_own _ rfl _ _ 24 rfl w.heap.size 5 i0 (.int .u8 0) 1 1 Tryz.underlying24 hi hz0 hz1 hz2 rfl (by decide) _ _ _ rfl (HO.out.alloc _) ⟨wr.heap.size,0,none⟩ 1 1 [.int .u8 0] rfl rfl (cell_one_new _ _ _) (by simp[Value.oneCell']) (by unfold maxLen;omega) (by omega) (by simp;have:=HB.out.size;omega) ?_;intro v' w6 hown' hgrow _;have hb3:Below w.heap.size w w6:=(HB.out.alloc HB.out.size _).grown hgrow (by simp;have:=HB.out.size;omega) (fun k e=>(HO.out.lt k e).1))
  refine⟨⟨j+1,rfl,by omega,by rw[HZ.out,List.map_append];exact hown',hb3⟩,by simp[intOf];omega⟩
def qG (h:List Int):List Int:=h++List.replicate 8 0
theorem qX {N:Nat}(hN:N≤64){h:List Int}(hh:Words N 8 h):Words 64 16 (qG h):=by
 refine⟨by simp[qG,hh.1],fun z hz=>?_⟩;rcases List.mem_append.1 hz with hz|hz
 ·have:=hh.2 z hz
  have h2:(2:Int)^N≤2^64:=by exact_mod_cast Nat.pow_le_pow_right (by omega) hN
  omega
 ·rw[List.eq_of_mem_replicate hz];decide
theorem qaG {h:List Int}(hh:h.length=8){j:Nat}(hj:j<8):wd (qG h) j=wd h j:=by
 unfold wd qG;simp[Lg,List.getElem?_append_left (show j<h.length by omega)]
def Qt (h b:List Int)(j:Nat):List Int:=h.take j++b.drop j
theorem zk {h b:List Int}{j:Nat}(hj:j<h.length)(hb:j<b.length):(Qt h b j).set j (wd h j)=Qt h b (j+1):=by
 have e1:h.take (j+1)=h.take j++[wd h j]:=by
  rw[List.take_succ_eq_append_getElem hj];simp[wd,Lg,hj]
 have e2:b.drop j=b[j]::b.drop (j+1):=List.drop_eq_getElem_cons hb;have e3:(h.take j).length=j:=by simp;omega
 unfold Qt;rw[e1,e2,List.set_append_right _ _ (by omega),e3,Nat.sub_self,List.set_cons_zero];simp
theorem yR {h b:List Int}{j:Nat}(hj:j≤h.length)(hb:j≤b.length):(Qt h b j).length=b.length:=by simp[Qt];omega
theorem Yc {k:IntKind}{L:List Int}{j:Nat}(hj:j<L.length):(qh k L)[j]? =some (.int k (wd L j)):=by
 simp[qh,wd,Lg,hj]
theorem Holds8.mono_below' {w w':World}{v:Value}{zs:List Int}{B:Nat}(h:Holds8 w v zs)(hb:Below B w w')(hB:w.heap.size≤B):Holds8 w' v zs:=qT h (hb.mono hB)
def Z8:List Int:=List.replicate 8 0
theorem Jp {R h:List Int}(hR:R.length=8)(hh:h.length=8):Qt R (qG h) 8=qG R:=by
 unfold Qt qG;rw[List.take_of_length_le (by omega),List.drop_append_of_le_length (by omega),List.drop_of_length_le (by omega),List.nil_append]
theorem qa1 (h bs:List Int)(hh:Words 64 8 h)(v:Value)(lo:Nat)(hlo:(lo:Int)<9223372036854775808)(last node:Bool)(w:World)(hH:Holds8 w v bs)(hz: ∀z∈bs,0≤z∧z≤255)(hl:bs.length=128):
  Calls Tryz.prog 185 #[.int .i64 1,.agg (qh .u64 (qG h)),v,.int .u64 (lo:Nat),.int .u64 0,.bool last,.bool node] w fun e w'=>e= .returned (.agg (qh .u64 (qG (yq true h bs (lo:Nat) last node))))∧Below w.heap.size w w':=by
 obtain⟨b0,hb0⟩:=Ex w.heap.size;have hMw:=Q5 8 16 hz (by rw[hl]);obtain⟨M,hM⟩:=Ex (QS 8 16 bs);obtain⟨R,hR⟩:=Ex (yq true h bs (lo:Nat) last node);have hRw:Words 64 8 R:=by rw[←hR];exact QO true hh _ _ _ _
 have hR2:zJ mixBig IVb 12 h M (lo:Nat) 0 last node=R:=by rw[←hR,←hM];rfl
 rw[hR];rw[hM]at hMw;have hS16:=qX (by decide) hh;have hwd: ∀j,j<8→wd (qG h) j=wd h j:=fun j hj=>qaG hh.1 hj
 have HM_:=hid hM;have HR2_:=hid hR2;have HL_:=hid hl;have HLO_:=hid hlo;have HMW_:=hid hMw;have HRW_:=hid hRw;have HH_:=hid hh;have HS16_:=hid hS16;have HWD_:=hid hwd;have HZ_:=hid hz;have HHB_:=hid hH;clear hM hR hR2 hl hlo hMw hRw hwd hS16 hz hH hh;go_enter Tryz.func185,Tryz.ntmps185
 go_wp2_with fail
 have hs3:(((w.alloc (.cells (qh .u64 (qG h)) 257)).alloc (.cells #[.int .u64 0,.int .u64 0,.int .u64 0,.int .u64 0,.int .u64 0,.int .u64 0,.int .u64 0,.int .u64 0,.int .u64 0,.int .u64 0,.int .u64 0,.int .u64 0,.int .u64 0,.int .u64 0,.int .u64 0,.int .u64 0] 257)).alloc (.cells (qh .u64 Z8) 278)).heap.size=b0+3:=by simp[hb0]
 have r0:(((w.alloc (.cells (qh .u64 (qG h)) 257)).alloc (.cells #[.int .u64 0,.int .u64 0,.int .u64 0,.int .u64 0,.int .u64 0,.int .u64 0,.int .u64 0,.int .u64 0,.int .u64 0,.int .u64 0,.int .u64 0,.int .u64 0,.int .u64 0,.int .u64 0,.int .u64 0,.int .u64 0] 257)).alloc (.cells (qh .u64 Z8) 278)).heap[b0]? =some (.cells (qh .u64 (qG h)) 257 (0,0)):=by
  rw[Bh _ _ _ (by simp[hb0];omega),Bh _ _ _ (by simp[hb0]),←hb0];exact Wn _ _
 have r1:(((w.alloc (.cells (qh .u64 (qG h)) 257)).alloc (.cells #[.int .u64 0,.int .u64 0,.int .u64 0,.int .u64 0,.int .u64 0,.int .u64 0,.int .u64 0,.int .u64 0,.int .u64 0,.int .u64 0,.int .u64 0,.int .u64 0,.int .u64 0,.int .u64 0,.int .u64 0,.int .u64 0] 257)).alloc (.cells (qh .u64 Z8) 278)).heap[b0+1]? =some (.cells #[.int .u64 0,.int .u64 0,.int .u64 0,.int .u64 0,.int .u64 0,.int .u64 0,.int .u64 0,.int .u64 0,.int .u64 0,.int .u64 0,.int .u64 0,.int .u64 0,.int .u64 0,.int .u64 0,.int .u64 0,.int .u64 0] 257 (0,0)):=by
  rw[Bh _ _ _ (by simp[hb0]),show b0+1=(w.alloc (.cells (qh .u64 (qG h)) 257)).heap.size by simp[hb0]];exact Wn _ _
 have r2:(((w.alloc (.cells (qh .u64 (qG h)) 257)).alloc (.cells #[.int .u64 0,.int .u64 0,.int .u64 0,.int .u64 0,.int .u64 0,.int .u64 0,.int .u64 0,.int .u64 0,.int .u64 0,.int .u64 0,.int .u64 0,.int .u64 0,.int .u64 0,.int .u64 0,.int .u64 0,.int .u64 0] 257)).alloc (.cells (qh .u64 Z8) 278)).heap[b0+1+1]? =some (.cells (qh .u64 (Qt h Z8 0)) 278 (0,0)):=by
  rw[show b0+1+1=((w.alloc (.cells (qh .u64 (qG h)) 257)).alloc (.cells #[.int .u64 0,.int .u64 0,.int .u64 0,.int .u64 0,.int .u64 0,.int .u64 0,.int .u64 0,.int .u64 0,.int .u64 0,.int .u64 0,.int .u64 0,.int .u64 0,.int .u64 0,.int .u64 0,.int .u64 0,.int .u64 0] 257)).heap.size by simp[hb0]];exact Wn _ _
 have hb3:Below b0 w (((w.alloc (.cells (qh .u64 (qG h)) 257)).alloc (.cells #[.int .u64 0,.int .u64 0,.int .u64 0,.int .u64 0,.int .u64 0,.int .u64 0,.int .u64 0,.int .u64 0,.int .u64 0,.int .u64 0,.int .u64 0,.int .u64 0,.int .u64 0,.int .u64 0,.int .u64 0,.int .u64 0] 257)).alloc (.cells (qh .u64 Z8) 278)):=by rw[←hb0];exact((Br.alloc Nl _).alloc (by simp) _).alloc (by simp;omega) _
 change Code.wp _ _ _ _ (((w.alloc (.cells (qh .u64 (qG h)) 257)).alloc (.cells #[.int .u64 0,.int .u64 0,.int .u64 0,.int .u64 0,.int .u64 0,.int .u64 0,.int .u64 0,.int .u64 0,.int .u64 0,.int .u64 0,.int .u64 0,.int .u64 0,.int .u64 0,.int .u64 0,.int .u64 0,.int .u64 0] 257)).alloc (.cells (qh .u64 Z8) 278))
 generalize (((w.alloc (.cells (qh .u64 (qG h)) 257)).alloc (.cells #[.int .u64 0,.int .u64 0,.int .u64 0,.int .u64 0,.int .u64 0,.int .u64 0,.int .u64 0,.int .u64 0,.int .u64 0,.int .u64 0,.int .u64 0,.int .u64 0,.int .u64 0,.int .u64 0,.int .u64 0,.int .u64 0] 257)).alloc (.cells (qh .u64 Z8) 278))=W3 at*;have R0:=hid r0;have R1:=hid r1;have R2:=hid r2;have HB3:=hid hb3;clear r0 r1 r2 hb3;go_loopw [16] (fun i wr=> ∃j:Nat,i= .int .i64 (j:Nat)∧j≤8∧wr.heap[b0+1+1]? =some (.cells (qh .u64 (Qt h Z8 j)) 278 (0,0))∧But (b0+1+1) W3 wr) (fun i _=>8 - (intOf i).toNat)
 case atStart=>exact⟨0,rfl,by omega,R2.out,But.refl _ _⟩
 case round=>
  obtain⟨j,rfl,hj,hrow,hb⟩:=hrel;have HROW:=hid hrow;have HB:=hid hb;have hwrs:b0+3≤wr.heap.size:=by have:=hb.size;omega
  by_cases hlt:j<8
  case pos=>
   have c0:wr.cell? ⟨b0,j,none⟩=some (.int .u64 (wd h j)):=by
    rw[qa ((hb.block b0 (by omega) (by omega)).trans R0.out) j,Yc (by rw[HS16_.out.1];omega),HWD_.out j hlt]
   have hfl:(Qt h Z8 j).length=8:=yR (by rw[HH_.out.1];omega) (by show j≤8;omega);have c1:wr.cell? ⟨b0+1+1,j,none⟩=some (.int .u64 (wd (Qt h Z8 j) j)):=by rw[qa hrow j,Yc (by omega)]
   have f1:=frozen_of_row wr (b0+1+1) j _ _ hrow;have hst:=heap_setCell_same wr (b0+1+1) j _ _ (.int .u64 (wd h j)) hrow;rw[Qd,zk (by rw[HH_.out.1];omega) (by show j<8;omega)]at hst;have hbd:=ym HH_.out hlt;have HST:=hid hst;have hjj:(j:Int)<8:=by omega
   generalize wd (Qt h Z8 j) j=zo at c1;generalize wd h j=zj at*;obtain⟨hbd1,hbd2⟩:=hbd;clear hst hfl hrow hb;go_wp2
   exact⟨⟨j+1,rfl,by omega,HST.out,HB.out.set _ _⟩,by simp[intOf];omega⟩
  obtain rfl:j=8:=by omega
  rw[show Qt h Z8 8=h by unfold Qt;rw[List.take_of_length_le (by rw[HH_.out.1];omega)];simp[Z8]]at HROW;have hh8:=HHB_.out.mono_below' (HB3.out.trans (hb.below (by omega) (by omega))) (by omega);have HH8:=hid hh8;clear hrow hb hh8 hj hlt;go_wp2_with fail
  refine(qbD bs v _ HH8.out HZ_.out HL_.out).mono ?_;rintro e w1 ⟨rfl,hb1⟩;rw[HM_.out];have hs1:=hb1.size;have k0:=qd ((HB.out.block b0 (by omega) (by omega)).trans R0.out) hb1;have k1:=qd ((HB.out.block (b0+1) (by omega) (by omega)).trans R1.out) hb1;have k2:=qd HROW.out hb1;have hbw:Below b0 w w1:=(HB3.out.trans (HB.out.below (by omega) (by omega))).trans (hb1.mono (by omega));have K0:=hid k0;have K1:=hid k1;have K2:=hid k2;have HBW:=hid hbw;clear k0 k1 k2 hbw hb1 HB HROW R0 R1 R2 HB3 HH8;go_upto_region 8 with((with_reducible show wpList _ _ _ (Oper.mk none (Op.store 257 _ _) _ _ _ _::_) _ _);refine wpList_store_row rfl 257 _ _ rfl w1.heap.size (qh .u64 M) rfl rfl 257 _ (Wn _ _) (by rw[qe,HMW_.out.1];kernel_rfl) (by rw[qe,HMW_.out.1];rfl) qv ?_)
  refine qj ?_;intro W hW;obtain⟨bv,hbv⟩:=Ex w1.heap.size;have g0:W.heap[b0]? =some (.cells (qh .u64 (qG h)) 257 (0,0)):=by rw[hW];exact(setRow_other (w1.alloc _) _ _ _ (by omega)).trans ((Bh _ _ _ (by omega)).trans K0.out)
  have g1:W.heap[b0+1]? =some (.cells #[.int .u64 0,.int .u64 0,.int .u64 0,.int .u64 0,.int .u64 0,.int .u64 0,.int .u64 0,.int .u64 0,.int .u64 0,.int .u64 0,.int .u64 0,.int .u64 0,.int .u64 0,.int .u64 0,.int .u64 0,.int .u64 0] 257 (0,0)):=by rw[hW];exact(setRow_other (w1.alloc _) _ _ _ (by omega)).trans ((Bh _ _ _ (by omega)).trans K1.out)
  have g2:W.heap[b0+1+1]? =some (.cells (qh .u64 h) 278 (0,0)):=by rw[hW];exact(setRow_other (w1.alloc _) _ _ _ (by omega)).trans ((Bh _ _ _ (by omega)).trans K2.out)
  have g3:W.heap[bv]? =some (.cells (qh .u64 M) 257 (0,0)):=by rw[hW,←hbv];exact setRow_heap _ _ _ _ _ _ (Wn _ _)
  have hB2:Below b0 w W:=by rw[hW];exact below_setRow (HBW.out.alloc (by omega) _) (by omega) _
  rw[hbv];have hbvb:b0+3≤bv:=by omega
  clear hW hbv K0 K1 K2 HBW hs1 hwrs;go_wp2_with (first|((with_reducible show wpList _ _ _ (Oper.mk (some 41) _ _ _ _ _::_) _ _);refine wpList_load_row rfl 278 _ rfl (b0+1+1) rfl _ _ _ _ g2 Tryz.underlying278 rfl (by rw[qe,HH_.out.1];kernel_rfl) ?_)|((with_reducible show wpList _ _ _ (Oper.mk (some 42) _ _ _ _ _::_) _ _);refine wpList_load_row rfl 257 _ rfl bv rfl _ _ _ _ g3 Tryz.underlying257 rfl (by rw[qe,HMW_.out.1];kernel_rfl) ?_))
  refine(qiv h M HH_.out HMW_.out (lo:Nat) 0 last node _).mono ?_;rintro e w2 ⟨rfl,hb2⟩;rw[HR2_.out];have hs2:=hb2.size;have hWs:=(Ai g3).1;have j0:=qd g0 hb2;have j1:=qd g1 hb2;have j2:=qd g2 hb2;have hB3:Below b0 w w2:=hB2.trans (hb2.mono (by omega));clear g0 g1 g2 g3 hB2 hb2;go_upto_region 9 with((with_reducible show wpList _ _ _ (Oper.mk none (Op.store 278 _ _) _ _ _ _::_) _ _);refine wpList_store_row rfl 278 _ _ rfl (b0+1+1) (qh .u64 R) rfl rfl 278 _ j2 (by rw[qe,HRW_.out.1];kernel_rfl) (by rw[qe,qe,HRW_.out.1,HH_.out.1]) qv ?_)
  refine qj ?_;intro W7 hW7;have m0:W7.heap[b0]? =some (.cells (qh .u64 (Qt R (qG h) 0)) 257 (0,0)):=by rw[hW7];exact(setRow_other w2 _ _ _ (by omega)).trans j0
  have m1:W7.heap[b0+1]? =some (.cells #[.int .u64 0,.int .u64 0,.int .u64 0,.int .u64 0,.int .u64 0,.int .u64 0,.int .u64 0,.int .u64 0,.int .u64 0,.int .u64 0,.int .u64 0,.int .u64 0,.int .u64 0,.int .u64 0,.int .u64 0,.int .u64 0] 257 (0,0)):=by rw[hW7];exact(setRow_other w2 _ _ _ (by omega)).trans j1
  have m2:W7.heap[b0+1+1]? =some (.cells (qh .u64 R) 278 (0,0)):=by rw[hW7];exact setRow_heap _ _ _ _ _ _ j2
  have hB7:Below b0 w W7:=by rw[hW7];exact below_setRow hB3 (by omega) _
  have hs7:b0+3≤W7.heap.size:=by rw[hW7,setRow_size];omega
  have M0:=hid m0;have M1:=hid m1;have M2:=hid m2;have HB7:=hid hB7;clear hW7 m0 m1 m2 hB7 j0 j1 j2 hB3 hs2 hWs hbvb;go_wp2_with fail
  go_loopw [19] (fun i wr=> ∃j:Nat,i= .int .i64 (j:Nat)∧j≤8∧wr.heap[b0]? =some (.cells (qh .u64 (Qt R (qG h) j)) 257 (0,0))∧But b0 W7 wr) (fun i _=>8 - (intOf i).toNat)
  case atStart=>exact⟨0,rfl,by omega,M0.out,But.refl _ _⟩
  case round=>
   obtain⟨j,rfl,hj,hrow,hb⟩:=hrel;have HROW:=hid hrow;have HB:=hid hb;have hwrs:b0+3≤wr.heap.size:=by have:=hb.size;omega
   have h16:(qG h).length=16:=HS16_.out.1;by_cases hlt:j<8
   case pos=>
    have c0:wr.cell? ⟨b0+1+1,j,none⟩=some (.int .u64 (wd R j)):=by rw[qa ((hb.block (b0+1+1) (by omega) (by omega)).trans M2.out) j,Yc (by rw[HRW_.out.1];omega)]
    have hfl:(Qt R (qG h) j).length=16:=by rw[yR (by rw[HRW_.out.1];omega) (by omega),h16]
    have c1:wr.cell? ⟨b0,j,none⟩=some (.int .u64 (wd (Qt R (qG h) j) j)):=by rw[qa hrow j,Yc (by omega)]
    have f1:=frozen_of_row wr b0 j _ _ hrow;have hst:=heap_setCell_same wr b0 j _ _ (.int .u64 (wd R j)) hrow;rw[Qd,zk (by rw[HRW_.out.1];omega) (by omega)]at hst;have hbd:=ym HRW_.out hlt;have HST:=hid hst;have hjj:(j:Int)<8:=by omega
    generalize wd (Qt R (qG h) j) j=zo at c1;generalize wd R j=zj at*;obtain⟨hbd1,hbd2⟩:=hbd;clear hst hfl hrow hb h16;go_wp2
    exact⟨⟨j+1,rfl,by omega,HST.out,HB.out.set _ _⟩,by simp[intOf];omega⟩
   obtain rfl:j=8:=by omega
   rw[Jp HRW_.out.1 HH_.out.1]at hrow;have n1:=(hb.block (b0+1) (by omega) (by omega)).trans M1.out;have hb9:Below b0 w wr:=HB7.out.trans (hb.below Nl (by omega));have hR16:=qX (by decide) HRW_.out;clear hb h16 hj hlt HROW;go_wp2_with (first|((with_reducible show wpList _ _ _ (Oper.mk (some 57) _ _ _ _ _::_) _ _);refine wpList_load_row rfl 257 _ rfl b0 rfl _ _ _ _ hrow Tryz.underlying257 rfl (by rw[qe,hR16.1];kernel_rfl) ?_)|((with_reducible show wpList _ _ _ (Oper.mk none (Op.store 257 _ _) _ _ _ _::_) _ _);refine wpList_store_row rfl 257 _ _ rfl (b0+1) (qh .u64 (qG R)) rfl rfl 257 _ n1 (by rw[qe,hR16.1];kernel_rfl) (by rw[qe,hR16.1];rfl) qv ?_))
   exact Bp (results_cell_row rfl _ _ (b0+1) 257 _ _ _ rfl (setRow_heap _ _ _ _ _ _ n1) Tryz.underlying257 rfl (by rw[qe,hR16.1];kernel_rfl)) rfl ⟨rfl,by rw[hb0];exact below_setRow hb9 (by omega) _⟩
theorem qag (h bs:List Int)(hh:Words 32 8 h)(v:Value)(lo:Nat)(hlo:(lo:Int)<9223372036854775808)(last node:Bool)(w:World)(hH:Holds8 w v bs)(hz: ∀z∈bs,0≤z∧z≤255)(hl:bs.length=64):
  Calls Tryz.prog 185 #[.int .i64 2,.agg (qh .u64 (qG h)),v,.int .u64 (lo:Nat),.int .u64 0,.bool last,.bool node] w fun e w'=>e= .returned (.agg (qh .u64 (qG (yq false h bs (lo:Nat) last node))))∧Below w.heap.size w w':=by
 obtain⟨b0,hb0⟩:=Ex w.heap.size;have hMw:=Q5 4 16 hz (by rw[hl]);obtain⟨M,hM⟩:=Ex (QS 4 16 bs);obtain⟨R,hR⟩:=Ex (yq false h bs (lo:Nat) last node);have hRw:Words 32 8 R:=by rw[←hR];exact QO false hh _ _ _ _
 have hR2:zJ mixSmall IVs 10 h M ((lo:Nat)%4294967296) ((lo:Nat)/4294967296) last node=R:=by rw[←hR,←hM];rfl
 rw[hR];rw[hM]at hMw;have hS16:=qX (by decide) hh;have hwd: ∀j,j<8→wd (qG h) j=wd h j:=fun j hj=>qaG hh.1 hj
 have HM_:=hid hM;have HR2_:=hid hR2;have HL_:=hid hl;have HLO_:=hid hlo;have HMW_:=hid hMw;have HRW_:=hid hRw;have HH_:=hid hh;have HS16_:=hid hS16;have HWD_:=hid hwd;have HZ_:=hid hz;have HHB_:=hid hH;clear hM hR hR2 hl hlo hMw hRw hwd hS16 hz hH hh;go_enter Tryz.func185,Tryz.ntmps185
 go_wp2_with fail
 have hs3:(((w.alloc (.cells (qh .u64 (qG h)) 257)).alloc (.cells #[.int .u64 0,.int .u64 0,.int .u64 0,.int .u64 0,.int .u64 0,.int .u64 0,.int .u64 0,.int .u64 0,.int .u64 0,.int .u64 0,.int .u64 0,.int .u64 0,.int .u64 0,.int .u64 0,.int .u64 0,.int .u64 0] 257)).alloc (.cells (qh .u32 Z8) 288)).heap.size=b0+3:=by simp[hb0]
 have r0:(((w.alloc (.cells (qh .u64 (qG h)) 257)).alloc (.cells #[.int .u64 0,.int .u64 0,.int .u64 0,.int .u64 0,.int .u64 0,.int .u64 0,.int .u64 0,.int .u64 0,.int .u64 0,.int .u64 0,.int .u64 0,.int .u64 0,.int .u64 0,.int .u64 0,.int .u64 0,.int .u64 0] 257)).alloc (.cells (qh .u32 Z8) 288)).heap[b0]? =some (.cells (qh .u64 (qG h)) 257 (0,0)):=by
  rw[Bh _ _ _ (by simp[hb0];omega),Bh _ _ _ (by simp[hb0]),←hb0];exact Wn _ _
 have r1:(((w.alloc (.cells (qh .u64 (qG h)) 257)).alloc (.cells #[.int .u64 0,.int .u64 0,.int .u64 0,.int .u64 0,.int .u64 0,.int .u64 0,.int .u64 0,.int .u64 0,.int .u64 0,.int .u64 0,.int .u64 0,.int .u64 0,.int .u64 0,.int .u64 0,.int .u64 0,.int .u64 0] 257)).alloc (.cells (qh .u32 Z8) 288)).heap[b0+1]? =some (.cells #[.int .u64 0,.int .u64 0,.int .u64 0,.int .u64 0,.int .u64 0,.int .u64 0,.int .u64 0,.int .u64 0,.int .u64 0,.int .u64 0,.int .u64 0,.int .u64 0,.int .u64 0,.int .u64 0,.int .u64 0,.int .u64 0] 257 (0,0)):=by
  rw[Bh _ _ _ (by simp[hb0]),show b0+1=(w.alloc (.cells (qh .u64 (qG h)) 257)).heap.size by simp[hb0]];exact Wn _ _
 have r2:(((w.alloc (.cells (qh .u64 (qG h)) 257)).alloc (.cells #[.int .u64 0,.int .u64 0,.int .u64 0,.int .u64 0,.int .u64 0,.int .u64 0,.int .u64 0,.int .u64 0,.int .u64 0,.int .u64 0,.int .u64 0,.int .u64 0,.int .u64 0,.int .u64 0,.int .u64 0,.int .u64 0] 257)).alloc (.cells (qh .u32 Z8) 288)).heap[b0+1+1]? =some (.cells (qh .u32 (Qt h Z8 0)) 288 (0,0)):=by
  rw[show b0+1+1=((w.alloc (.cells (qh .u64 (qG h)) 257)).alloc (.cells #[.int .u64 0,.int .u64 0,.int .u64 0,.int .u64 0,.int .u64 0,.int .u64 0,.int .u64 0,.int .u64 0,.int .u64 0,.int .u64 0,.int .u64 0,.int .u64 0,.int .u64 0,.int .u64 0,.int .u64 0,.int .u64 0] 257)).heap.size by simp[hb0]];exact Wn _ _
 have hb3:Below b0 w (((w.alloc (.cells (qh .u64 (qG h)) 257)).alloc (.cells #[.int .u64 0,.int .u64 0,.int .u64 0,.int .u64 0,.int .u64 0,.int .u64 0,.int .u64 0,.int .u64 0,.int .u64 0,.int .u64 0,.int .u64 0,.int .u64 0,.int .u64 0,.int .u64 0,.int .u64 0,.int .u64 0] 257)).alloc (.cells (qh .u32 Z8) 288)):=by rw[←hb0];exact((Br.alloc Nl _).alloc (by simp) _).alloc (by simp;omega) _
 change Code.wp _ _ _ _ (((w.alloc (.cells (qh .u64 (qG h)) 257)).alloc (.cells #[.int .u64 0,.int .u64 0,.int .u64 0,.int .u64 0,.int .u64 0,.int .u64 0,.int .u64 0,.int .u64 0,.int .u64 0,.int .u64 0,.int .u64 0,.int .u64 0,.int .u64 0,.int .u64 0,.int .u64 0,.int .u64 0] 257)).alloc (.cells (qh .u32 Z8) 288))
 generalize (((w.alloc (.cells (qh .u64 (qG h)) 257)).alloc (.cells #[.int .u64 0,.int .u64 0,.int .u64 0,.int .u64 0,.int .u64 0,.int .u64 0,.int .u64 0,.int .u64 0,.int .u64 0,.int .u64 0,.int .u64 0,.int .u64 0,.int .u64 0,.int .u64 0,.int .u64 0,.int .u64 0] 257)).alloc (.cells (qh .u32 Z8) 288))=W3 at*;have R0:=hid r0;have R1:=hid r1;have R2:=hid r2;have HB3:=hid hb3;clear r0 r1 r2 hb3;go_loopw [21] (fun i wr=> ∃j:Nat,i= .int .i64 (j:Nat)∧j≤8∧wr.heap[b0+1+1]? =some (.cells (qh .u32 (Qt h Z8 j)) 288 (0,0))∧But (b0+1+1) W3 wr) (fun i _=>8 - (intOf i).toNat)
 case atStart=>exact⟨0,rfl,by omega,R2.out,But.refl _ _⟩
 case round=>
  obtain⟨j,rfl,hj,hrow,hb⟩:=hrel;have HROW:=hid hrow;have HB:=hid hb;have hwrs:b0+3≤wr.heap.size:=by have:=hb.size;omega
  by_cases hlt:j<8
  case pos=>
   have c0:wr.cell? ⟨b0,j,none⟩=some (.int .u64 (wd h j)):=by
    rw[qa ((hb.block b0 (by omega) (by omega)).trans R0.out) j,Yc (by rw[HS16_.out.1];omega),HWD_.out j hlt]
   have hfl:(Qt h Z8 j).length=8:=yR (by rw[HH_.out.1];omega) (by show j≤8;omega);have c1:wr.cell? ⟨b0+1+1,j,none⟩=some (.int .u32 (wd (Qt h Z8 j) j)):=by rw[qa hrow j,Yc (by omega)]
   have f1:=frozen_of_row wr (b0+1+1) j _ _ hrow;have hst:=heap_setCell_same wr (b0+1+1) j _ _ (.int .u32 (wd h j)) hrow;rw[Qd,zk (by rw[HH_.out.1];omega) (by show j<8;omega)]at hst;have hbd:=ym HH_.out hlt;have hcv:IntKind.u32.wrap (wd h j)=wd h j:=by rw[IntKind.wrap_u32];exact Int.emod_eq_of_lt hbd.1 hbd.2
   have HST:=hid hst;have hjj:(j:Int)<8:=by omega
   generalize wd (Qt h Z8 j) j=zo at c1;generalize wd h j=zj at*;obtain⟨hbd1,hbd2⟩:=hbd;clear hst hfl hrow hb;go_wp2
   exact⟨⟨j+1,rfl,by omega,HST.out,HB.out.set _ _⟩,by simp[intOf];omega⟩
  obtain rfl:j=8:=by omega
  rw[show Qt h Z8 8=h by unfold Qt;rw[List.take_of_length_le (by rw[HH_.out.1];omega)];simp[Z8]]at HROW;have hh8:=HHB_.out.mono_below' (HB3.out.trans (hb.below (by omega) (by omega))) (by omega);have HH8:=hid hh8;clear hrow hb hh8 hj hlt;go_wp2_with fail
  refine(qbE bs v _ HH8.out HZ_.out HL_.out).mono ?_;rintro e w1 ⟨rfl,hb1⟩;rw[HM_.out];have hs1:=hb1.size;have k0:=qd ((HB.out.block b0 (by omega) (by omega)).trans R0.out) hb1;have k1:=qd ((HB.out.block (b0+1) (by omega) (by omega)).trans R1.out) hb1;have k2:=qd HROW.out hb1;have hbw:Below b0 w w1:=(HB3.out.trans (HB.out.below (by omega) (by omega))).trans (hb1.mono (by omega));have K0:=hid k0;have K1:=hid k1;have K2:=hid k2;have HBW:=hid hbw;clear k0 k1 k2 hbw hb1 HB HROW R0 R1 R2 HB3 HH8;go_upto_region 20 with((with_reducible show wpList _ _ _ (Oper.mk none (Op.store 302 _ _) _ _ _ _::_) _ _);refine wpList_store_row rfl 302 _ _ rfl w1.heap.size (qh .u32 M) rfl rfl 302 _ (Wn _ _) (by rw[qe,HMW_.out.1];kernel_rfl) (by rw[qe,HMW_.out.1];rfl) qv ?_)
  refine qj ?_;intro W hW;obtain⟨bv,hbv⟩:=Ex w1.heap.size;have g0:W.heap[b0]? =some (.cells (qh .u64 (qG h)) 257 (0,0)):=by rw[hW];exact(setRow_other (w1.alloc _) _ _ _ (by omega)).trans ((Bh _ _ _ (by omega)).trans K0.out)
  have g1:W.heap[b0+1]? =some (.cells #[.int .u64 0,.int .u64 0,.int .u64 0,.int .u64 0,.int .u64 0,.int .u64 0,.int .u64 0,.int .u64 0,.int .u64 0,.int .u64 0,.int .u64 0,.int .u64 0,.int .u64 0,.int .u64 0,.int .u64 0,.int .u64 0] 257 (0,0)):=by rw[hW];exact(setRow_other (w1.alloc _) _ _ _ (by omega)).trans ((Bh _ _ _ (by omega)).trans K1.out)
  have g2:W.heap[b0+1+1]? =some (.cells (qh .u32 h) 288 (0,0)):=by rw[hW];exact(setRow_other (w1.alloc _) _ _ _ (by omega)).trans ((Bh _ _ _ (by omega)).trans K2.out)
  have g3:W.heap[bv]? =some (.cells (qh .u32 M) 302 (0,0)):=by rw[hW,←hbv];exact setRow_heap _ _ _ _ _ _ (Wn _ _)
  have hB2:Below b0 w W:=by rw[hW];exact below_setRow (HBW.out.alloc (by omega) _) (by omega) _
  rw[hbv];have hbvb:b0+3≤bv:=by omega
  clear hW hbv K0 K1 K2 HBW hs1 hwrs;go_wp2_with (first|((with_reducible show wpList _ _ _ (Oper.mk (some 73) _ _ _ _ _::_) _ _);refine wpList_load_row rfl 288 _ rfl (b0+1+1) rfl _ _ _ _ g2 Tryz.underlying288 rfl (by rw[qe,HH_.out.1];kernel_rfl) ?_)|((with_reducible show wpList _ _ _ (Oper.mk (some 74) _ _ _ _ _::_) _ _);refine wpList_load_row rfl 302 _ rfl bv rfl _ _ _ _ g3 Tryz.underlying302 rfl (by rw[qe,HMW_.out.1];kernel_rfl) ?_))
  refine(qiw h M HH_.out HMW_.out (lo:Nat) (by omega) (by have:=HLO_.out;omega) last node _).mono ?_;rintro e w2 ⟨rfl,hb2⟩;rw[HR2_.out];have hs2:=hb2.size;have hWs:=(Ai g3).1;have j0:=qd g0 hb2;have j1:=qd g1 hb2;have j2:=qd g2 hb2;have hB3:Below b0 w w2:=hB2.trans (hb2.mono (by omega));clear g0 g1 g2 g3 hB2 hb2;go_upto_region 21 with((with_reducible show wpList _ _ _ (Oper.mk none (Op.store 288 _ _) _ _ _ _::_) _ _);refine wpList_store_row rfl 288 _ _ rfl (b0+1+1) (qh .u32 R) rfl rfl 288 _ j2 (by rw[qe,HRW_.out.1];kernel_rfl) (by rw[qe,qe,HRW_.out.1,HH_.out.1]) qv ?_)
  refine qj ?_;intro W7 hW7;have m0:W7.heap[b0]? =some (.cells (qh .u64 (Qt R (qG h) 0)) 257 (0,0)):=by rw[hW7];exact(setRow_other w2 _ _ _ (by omega)).trans j0
  have m1:W7.heap[b0+1]? =some (.cells #[.int .u64 0,.int .u64 0,.int .u64 0,.int .u64 0,.int .u64 0,.int .u64 0,.int .u64 0,.int .u64 0,.int .u64 0,.int .u64 0,.int .u64 0,.int .u64 0,.int .u64 0,.int .u64 0,.int .u64 0,.int .u64 0] 257 (0,0)):=by rw[hW7];exact(setRow_other w2 _ _ _ (by omega)).trans j1
  have m2:W7.heap[b0+1+1]? =some (.cells (qh .u32 R) 288 (0,0)):=by rw[hW7];exact setRow_heap _ _ _ _ _ _ j2
  have hB7:Below b0 w W7:=by rw[hW7];exact below_setRow hB3 (by omega) _
  have hs7:b0+3≤W7.heap.size:=by rw[hW7,setRow_size];omega
  have M0:=hid m0;have M1:=hid m1;have M2:=hid m2;have HB7:=hid hB7;clear hW7 m0 m1 m2 hB7 j0 j1 j2 hB3 hs2 hWs hbvb;go_wp2_with fail
  go_loopw [24] (fun i wr=> ∃j:Nat,i= .int .i64 (j:Nat)∧j≤8∧wr.heap[b0]? =some (.cells (qh .u64 (Qt R (qG h) j)) 257 (0,0))∧But b0 W7 wr) (fun i _=>8 - (intOf i).toNat)
  case atStart=>exact⟨0,rfl,by omega,M0.out,But.refl _ _⟩
  case round=>
   obtain⟨j,rfl,hj,hrow,hb⟩:=hrel;have HROW:=hid hrow;have HB:=hid hb;have hwrs:b0+3≤wr.heap.size:=by have:=hb.size;omega
   have h16:(qG h).length=16:=HS16_.out.1;by_cases hlt:j<8
   case pos=>
    have c0:wr.cell? ⟨b0+1+1,j,none⟩=some (.int .u32 (wd R j)):=by rw[qa ((hb.block (b0+1+1) (by omega) (by omega)).trans M2.out) j,Yc (by rw[HRW_.out.1];omega)]
    have hfl:(Qt R (qG h) j).length=16:=by rw[yR (by rw[HRW_.out.1];omega) (by omega),h16]
    have c1:wr.cell? ⟨b0,j,none⟩=some (.int .u64 (wd (Qt R (qG h) j) j)):=by rw[qa hrow j,Yc (by omega)]
    have f1:=frozen_of_row wr b0 j _ _ hrow;have hst:=heap_setCell_same wr b0 j _ _ (.int .u64 (wd R j)) hrow;rw[Qd,zk (by rw[HRW_.out.1];omega) (by omega)]at hst;have hbd:=ym HRW_.out hlt;have hcv:IntKind.u64.wrap (wd R j)=wd R j:=u64_wrap_id _ hbd.1 (by have:=hbd.2;simp at this;omega);have HST:=hid hst;have hjj:(j:Int)<8:=by omega
    generalize wd (Qt R (qG h) j) j=zo at c1;generalize wd R j=zj at*;obtain⟨hbd1,hbd2⟩:=hbd;clear hst hfl hrow hb h16;go_wp2
    exact⟨⟨j+1,rfl,by omega,HST.out,HB.out.set _ _⟩,by simp[intOf];omega⟩
   obtain rfl:j=8:=by omega
   rw[Jp HRW_.out.1 HH_.out.1]at hrow;have n1:=(hb.block (b0+1) (by omega) (by omega)).trans M1.out;have hb9:Below b0 w wr:=HB7.out.trans (hb.below Nl (by omega));have hR16:=qX (by decide) HRW_.out;clear hb h16 hj hlt HROW;go_wp2_with (first|((with_reducible show wpList _ _ _ (Oper.mk (some 89) _ _ _ _ _::_) _ _);refine wpList_load_row rfl 257 _ rfl b0 rfl _ _ _ _ hrow Tryz.underlying257 rfl (by rw[qe,hR16.1];kernel_rfl) ?_)|((with_reducible show wpList _ _ _ (Oper.mk none (Op.store 257 _ _) _ _ _ _::_) _ _);refine wpList_store_row rfl 257 _ _ rfl (b0+1) (qh .u64 (qG R)) rfl rfl 257 _ n1 (by rw[qe,hR16.1];kernel_rfl) (by rw[qe,hR16.1];rfl) qv ?_))
   exact Bp (results_cell_row rfl _ _ (b0+1) 257 _ _ _ rfl (setRow_heap _ _ _ _ _ _ n1) Tryz.underlying257 rfl (by rw[qe,hR16.1];kernel_rfl)) rfl ⟨rfl,by rw[hb0];exact below_setRow hb9 (by omega) _⟩
def rN (kd:Int)(v:Nat→Nat)(sa pe kv:Value)(la:Bool)(mv:Value)(cnt:Int):Array Value:= #[.int .i64 kd,.int .i64 (v 1:Nat),.int .i64 (v 2:Nat),.int .i64 (v 3:Nat),.int .i64 (v 4:Nat),.int .u32 (v 5:Nat),.int .u64 (v 6:Nat),.int .u32 (v 7:Nat),.int .i64 (v 8:Nat),.int .i64 (v 9:Nat),sa,pe,kv,.bool la,.int .u64 0,.int .u64 0,.int .u64 0,.int .u64 0,.int .u64 0,.int .u64 0,.int .u64 0,.int .u64 0,.int .u64 0,.int .u64 0,.int .u64 0,.int .u64 0,.int .u64 0,.int .u64 0,.int .u64 0,.int .u64 0,.bool false,.int .u64 0,.int .u64 0,mv,.int .u64 cnt]
def yY (big:Bool)(w:World)(np:Nat)(v:Nat→Nat)(sa pe kv:Value)(la:Bool)(mv:Value)(cnt:Int):Prop:=w.heap[np]? =some (.cells (rN (kB big) v sa pe kv la mv cnt) 259 (0,0))
def qf2 (v:Nat→Nat)(sa pe:Value):Array Value:= #[.int .i64 (v 1:Nat),.int .i64 (v 2:Nat),.int .i64 (v 3:Nat),.int .i64 (v 4:Nat),.int .u32 (v 5:Nat),.int .u64 (v 6:Nat),.int .u32 (v 7:Nat),.int .i64 (v 8:Nat),.int .i64 (v 9:Nat),sa,pe]
theorem qg2 (kd:Int)(v:Nat→Nat)(sa pe kv:Value)(la:Bool)(mv:Value)(cnt:Int): ∀j,j<(qf2 v sa pe).size→(rN kd v sa pe kv la mv cnt)[1+j]? =(qf2 v sa pe)[j]? :=by
 intro j hj;have hj:j<11:=hj;rcases(show j=0∨j=1∨j=2∨j=3∨j=4∨j=5∨j=6∨j=7∨j=8∨j=9∨j=10 by omega)with rfl|rfl|rfl|rfl|rfl|rfl|rfl|rfl|rfl|rfl|rfl<;>rfl
theorem ZM {b zs:List Int}{p:Nat}(hb: ∀z∈b,0≤z∧z≤255)(hz: ∀z∈zs,0≤z∧z≤255): ∀z∈Qh b p zs,0≤z∧z≤255:=by
 intro z h;unfold Qh at h;rcases List.mem_append.1 h with h|h
 ·rcases List.mem_append.1 h with h|h
  ·exact hb z (List.mem_of_mem_take h)
  ·exact hz z h
 ·exact hb z (List.mem_of_mem_drop h)
theorem Z0 (big x0:Bool)(v:Nat→Nat): ∀k,∀z∈Qw big x0 v k,0≤z∧z≤255
 | 0,z,h=>by rw[List.eq_of_mem_replicate h];omega
 | k+1,z,h=>by
  rw[Qw]at h;split at h
  ·exact Z0 big x0 v k z h
  ·exact ZM (Z0 big x0 v k) (jM _ _) z h
theorem zL {big:Bool}{v:Nat→Nat}{z1 z2:List Int}(h1: ∀z∈z1,0≤z∧z≤255)(h2: ∀z∈z2,0≤z∧z≤255): ∀z∈QK big v z1 z2,0≤z∧z≤255:=
 ZM (ZM (Z0 _ _ _ _) h1) h2
theorem qbF (v:Nat→Nat)(z1 z2:List Int)(sa pe kv mv:Value)(la:Bool)(cnt:Int)(np:Nat)(w:World)(hN:yY true w np v sa pe kv la mv cnt)(hP:ParOk true v)(h1:Hold w sa z1)(h2:Hold w pe z2)(hl1:z1.length≤16)(hl2:z2.length≤16):
  Calls Tryz.prog 196 #[.pointer (some ⟨np,0,none⟩)] w fun e w'=>e= .returned (.agg (qh .u64 (qG (h0Z true (QK true v z1 z2)))))∧Below w.heap.size w w':=by
 obtain⟨b0,hb0⟩:=Ex w.heap.size;have hnp:np<b0:=by rw[←hb0];exact(Ai hN).1
 have hEN:=fun(W:World) (hb:Below b0 w W)=>ZR v z1 z2 sa pe W hP (h1.below (hb0▸hb)) (h2.below (hb0▸hb)) hl1 hl2
 have hbz: ∀z∈QK true v z1 z2,0≤z∧z≤255:=zL h1.1 h2.1;have hbl:=yd (big:=true) (v:=v) hl1 hl2;generalize QK true v z1 z2=bs at*;obtain⟨H,hH0⟩:=Ex (h0Z true bs);have hHw:Words 64 8 H:=by rw[←hH0];exact QQ true bs
 have hH1:yn .u64 IVb 8 bs=H:=by rw[←hH0];rfl
 rw[hH0];have hN':w.heap[np]? =some (.cells (rN 1 v sa pe kv la mv cnt) 259 (0,0)):=hN;have HEN_:=hid hEN;have HBZ_:=hid hbz;have HBL_:=hid hbl;have HH1_:=hid hH1;have HHW_:=hid hHw;have HNR:=hid hN';have c30:w.cell? ⟨np,30,none⟩=some (.bool false):=qa hN' 30;have c0n:w.cell? ⟨np,0,none⟩=some (.int .i64 1):=qa hN' 0;have hnpw:np<w.heap.size:=by omega
 clear hN hN' hEN hbz hbl hH0 hH1 hHw hP h1 h2;go_enter Tryz.func196,Tryz.ntmps196
 go_upto_region 4 with(fail)
 have hs2:((w.alloc (.cells #[.int .u64 0,.int .u64 0,.int .u64 0,.int .u64 0,.int .u64 0,.int .u64 0,.int .u64 0,.int .u64 0,.int .u64 0,.int .u64 0,.int .u64 0,.int .u64 0,.int .u64 0,.int .u64 0,.int .u64 0,.int .u64 0] 257)).alloc (.cells #[.int .u64 0,.int .u64 0,.int .u64 0,.int .u64 0,.int .u64 0,.int .u64 0,.int .u64 0,.int .u64 0,.int .u64 0,.int .u64 0,.int .u64 0,.int .u64 0,.int .u64 0,.int .u64 0,.int .u64 0,.int .u64 0] 257)).heap.size=b0+2:=by simp[hb0]
 have r0:((w.alloc (.cells #[.int .u64 0,.int .u64 0,.int .u64 0,.int .u64 0,.int .u64 0,.int .u64 0,.int .u64 0,.int .u64 0,.int .u64 0,.int .u64 0,.int .u64 0,.int .u64 0,.int .u64 0,.int .u64 0,.int .u64 0,.int .u64 0] 257)).alloc (.cells #[.int .u64 0,.int .u64 0,.int .u64 0,.int .u64 0,.int .u64 0,.int .u64 0,.int .u64 0,.int .u64 0,.int .u64 0,.int .u64 0,.int .u64 0,.int .u64 0,.int .u64 0,.int .u64 0,.int .u64 0,.int .u64 0] 257)).heap[b0]? =some (.cells #[.int .u64 0,.int .u64 0,.int .u64 0,.int .u64 0,.int .u64 0,.int .u64 0,.int .u64 0,.int .u64 0,.int .u64 0,.int .u64 0,.int .u64 0,.int .u64 0,.int .u64 0,.int .u64 0,.int .u64 0,.int .u64 0] 257 (0,0)):=by rw[Bh _ _ _ (by simp[hb0]),←hb0];exact Wn _ _
 have r1:((w.alloc (.cells #[.int .u64 0,.int .u64 0,.int .u64 0,.int .u64 0,.int .u64 0,.int .u64 0,.int .u64 0,.int .u64 0,.int .u64 0,.int .u64 0,.int .u64 0,.int .u64 0,.int .u64 0,.int .u64 0,.int .u64 0,.int .u64 0] 257)).alloc (.cells #[.int .u64 0,.int .u64 0,.int .u64 0,.int .u64 0,.int .u64 0,.int .u64 0,.int .u64 0,.int .u64 0,.int .u64 0,.int .u64 0,.int .u64 0,.int .u64 0,.int .u64 0,.int .u64 0,.int .u64 0,.int .u64 0] 257)).heap[b0+1]? =some (.cells (qh .u64 (Qt H (qG Z8) 0)) 257 (0,0)):=by rw[show b0+1=(w.alloc (.cells #[.int .u64 0,.int .u64 0,.int .u64 0,.int .u64 0,.int .u64 0,.int .u64 0,.int .u64 0,.int .u64 0,.int .u64 0,.int .u64 0,.int .u64 0,.int .u64 0,.int .u64 0,.int .u64 0,.int .u64 0,.int .u64 0] 257)).heap.size by simp[hb0]];exact Wn _ _
 have hb2:Below b0 w ((w.alloc (.cells #[.int .u64 0,.int .u64 0,.int .u64 0,.int .u64 0,.int .u64 0,.int .u64 0,.int .u64 0,.int .u64 0,.int .u64 0,.int .u64 0,.int .u64 0,.int .u64 0,.int .u64 0,.int .u64 0,.int .u64 0,.int .u64 0] 257)).alloc (.cells #[.int .u64 0,.int .u64 0,.int .u64 0,.int .u64 0,.int .u64 0,.int .u64 0,.int .u64 0,.int .u64 0,.int .u64 0,.int .u64 0,.int .u64 0,.int .u64 0,.int .u64 0,.int .u64 0,.int .u64 0,.int .u64 0] 257)):=by rw[←hb0];exact(Br.alloc Nl _).alloc (by simp) _
 generalize ((w.alloc (.cells #[.int .u64 0,.int .u64 0,.int .u64 0,.int .u64 0,.int .u64 0,.int .u64 0,.int .u64 0,.int .u64 0,.int .u64 0,.int .u64 0,.int .u64 0,.int .u64 0,.int .u64 0,.int .u64 0,.int .u64 0,.int .u64 0] 257)).alloc (.cells #[.int .u64 0,.int .u64 0,.int .u64 0,.int .u64 0,.int .u64 0,.int .u64 0,.int .u64 0,.int .u64 0,.int .u64 0,.int .u64 0,.int .u64 0,.int .u64 0,.int .u64 0,.int .u64 0,.int .u64 0,.int .u64 0] 257))=W2 at*;have hn2:W2.heap[np]? =some (.cells (rN 1 v sa pe kv la mv cnt) 259 (0,0)):=(hb2.block np hnp).trans HNR.out;have R0:=hid r0;have R1:=hid r1;have HB2:=hid hb2;have HN2:=hid hn2;clear r0 r1 hb2 hn2 c30 c0n HNR hnpw;refine qC (n:=14) (w0:=W2) (B:=W2.heap.size) [.v 21 (.pointer (some ⟨np,0,none⟩)),.v 22 (.pointer (some ⟨np,0,none⟩)),.v 23 (.pointer (some ⟨np,0,none⟩)),.v 24 (.int .i64 1),.v 25 (.pointer (some ⟨np,0,none⟩)),.v 26 (.pointer (some ⟨np,0,none⟩)),.v 27 (.pointer (some ⟨np,1,none⟩)),.v 28 (.agg (qf2 v sa pe)),.p 29 (fun u W=> ∃r,u= .tuple #[r,.int .i64 0]∧W.ownsRow W2.heap.size 5 1 r 64 (bs.map qo)),.p 20 (fun u W=> ∃r,u= .tuple #[r,.int .i64 0]∧W.ownsRow W2.heap.size 5 1 r 64 (bs.map qo)),.p 30 (fun u W=>W.ownsRow W2.heap.size 5 1 u 64 (bs.map qo)),.v 31 (.int .i64 0),.p 4 (fun u W=>W.ownsRow W2.heap.size 5 1 u 64 (bs.map qo)),.v 5 (.int .i64 0)] (by exact⟨(fun _ _ _ h hb=>by obtain⟨r,e,h⟩:=h;exact⟨r,e,qg h (fun g _ hg=>hb.block g hg)⟩),(fun _ _ _ h hb=>by obtain⟨r,e,h⟩:=h;exact⟨r,e,qg h (fun g _ hg=>hb.block g hg)⟩),(fun _ _ _ h hb=>qg h (fun g _ hg=>hb.block g hg)),(fun _ _ _ h hb=>qg h (fun g _ hg=>hb.block g hg)),trivial⟩) Br.drew Nl ?_ ?_
 ·repeat' (with_reducible first|exact qx|refine qt ?_ ?_)
  all_goals try
   intro A x W hA hW hBW hdep D K hK;have a0:=hA.2 0 (by decide);conv at a0=>rhs;whnf
   simp only[QX,Q9]at D;clear hdep hA;go_simp
   exact hK _ _ BR rfl
  ·intro A x W hA hW hBW hdep _ K hK;have g23:=gv hA hdep 2 23;clear hdep hA;have g0:=qd HN2.out hW;have c0:W.cell? ⟨np,0,none⟩=some (.int .i64 1):=qa g0 0;go_simp
   exact hK _ _ BR rfl
  ·intro A x W hA hW hBW hdep _ K hK;have g27:=gv hA hdep 6 27;clear hdep hA;have g0:=qd HN2.out hW;refine Ql 179 _ rfl np 1 g27 259 _ (qf2 v sa pe) (0,0) _ g0 Tryz.underlying179 rfl (by kernel_rfl) (qg2 _ _ _ _ _ _ _ _) (hK _ _ Br rfl)
  ·intro A x W hA hW hBW hdep _ K hK;have g24:=gv hA hdep 3 24;have g28:=gv hA hdep 7 28;clear hdep hA;go_simp
   refine(HEN_.out W (HB2.out.trans (hW.mono (by omega)))).mono ?_;rintro e w' ⟨⟨r,rfl,ho⟩,hb⟩;exact hK _ _ hb ⟨r,rfl,ownsRow_le ho hBW⟩
  ·intro A x W hA hW hBW hdep _ K hK;have g29:(fun u W=> ∃r,u= .tuple #[r,.int .i64 0]∧W.ownsRow W2.heap.size 5 1 r 64 (bs.map qo)) (x 29) W:=hdep ⟨8,.data⟩ (by simp) rfl _ rfl;have a29:A.tmps.getD 29 undef=x 29:=hA.1 29 (by decide);clear hdep hA;go_simp
   exact hK _ _ Br (a29▸g29)
  ·intro A x W hA hW hBW hdep _ K hK;have g20:(fun u W=> ∃r,u= .tuple #[r,.int .i64 0]∧W.ownsRow W2.heap.size 5 1 r 64 (bs.map qo)) (x 20) W:=hdep ⟨9,.data⟩ (by simp) rfl _ rfl;have a20:A.tmps.getD 20 undef=x 20:=hA.1 20 (by decide);clear hdep hA;obtain⟨r,er,hr⟩:=g20;rw[er]at a20;go_simp
   exact hK _ _ Br hr
  ·intro A x W hA hW hBW hdep _ K hK;have g20:(fun u W=> ∃r,u= .tuple #[r,.int .i64 0]∧W.ownsRow W2.heap.size 5 1 r 64 (bs.map qo)) (x 20) W:=hdep ⟨9,.data⟩ (by simp) rfl _ rfl;have a20:A.tmps.getD 20 undef=x 20:=hA.1 20 (by decide);clear hdep hA;obtain⟨r,er,hr⟩:=g20;rw[er]at a20;go_simp
   exact hK _ _ BR rfl
  ·intro A x W hA hW hBW hdep _ K hK;have g30:(fun u W=>W.ownsRow W2.heap.size 5 1 u 64 (bs.map qo)) (x 30) W:=hdep ⟨10,.data⟩ (by simp) rfl _ rfl;have a30:A.tmps.getD 30 undef=x 30:=hA.1 30 (by decide);clear hdep hA;go_simp
   exact hK _ _ Br (a30▸g30)
 intro x W hW hBW hall;obtain⟨e29,e20,e30,e4, -⟩:=hall;change (fun u W=> ∃r,u= .tuple #[r,.int .i64 0]∧W.ownsRow W2.heap.size 5 1 r 64 (bs.map qo)) (x 29) W at e29
 change (fun u W=> ∃r,u= .tuple #[r,.int .i64 0]∧W.ownsRow W2.heap.size 5 1 r 64 (bs.map qo)) (x 20) W at e20
 change (fun u W=>W.ownsRow W2.heap.size 5 1 u 64 (bs.map qo)) (x 30) W at e30
 change (fun u W=>W.ownsRow W2.heap.size 5 1 u 64 (bs.map qo)) (x 4) W at e4
 refine qs ?_;simp only[QE,Act.put,Ls];have hh4:=QZ e4;have hb5:Below b0 w W:=HB2.out.trans (hW.mono (by omega));have g0:=qd HN2.out hW;have r0:=qd R0.out hW;have r1:=qd R1.out hW;have c0n:W.cell? ⟨np,0,none⟩=some (.int .i64 1):=qa g0 0;have hnpw:np<W.heap.size:=(Ai g0).1;have hWs:b0+2≤W.heap.size:=by have:=hW.size;omega
 have R0_:=hid r0;have R1_:=hid r1;have HB5:=hid hb5;have HH4:=hid hh4;clear e29 e20 e30 e4 hh4 hb5 g0 r0 r1 hW hBW R0 R1 HB2 HN2 hs2;go_wp2_with fail
 refine(qer bs _ _ HH4.out HBZ_.out HBL_.out).mono ?_;rintro e w1 ⟨rfl,hb1⟩;rw[HH1_.out];have hs1:=hb1.size;have k0:=qd R0_.out hb1;have k1:=qd R1_.out hb1;have hbw:Below b0 w w1:=HB5.out.trans (hb1.mono (by omega));have K0:=hid k0;have K1:=hid k1;have HBW:=hid hbw;clear k0 k1 hbw hb1 R0_ R1_ HB5 HH4 c0n hnpw;go_upto_region 7 with((with_reducible show wpList _ _ _ (Oper.mk none (Op.store 278 _ _) _ _ _ _::_) _ _);refine wpList_store_row rfl 278 _ _ rfl w1.heap.size (qh .u64 H) rfl rfl 278 _ (Wn _ _) (by rw[qe,HHW_.out.1];kernel_rfl) (by rw[qe,HHW_.out.1];rfl) qv ?_)
 refine qj ?_;intro W7 hW7;obtain⟨bv,hbv⟩:=Ex w1.heap.size;have m0:W7.heap[b0]? =some (.cells #[.int .u64 0,.int .u64 0,.int .u64 0,.int .u64 0,.int .u64 0,.int .u64 0,.int .u64 0,.int .u64 0,.int .u64 0,.int .u64 0,.int .u64 0,.int .u64 0,.int .u64 0,.int .u64 0,.int .u64 0,.int .u64 0] 257 (0,0)):=by rw[hW7];exact(setRow_other (w1.alloc _) _ _ _ (by omega)).trans ((Bh _ _ _ (by omega)).trans K0.out)
 have m1:W7.heap[b0+1]? =some (.cells (qh .u64 (Qt H (qG Z8) 0)) 257 (0,0)):=by rw[hW7];exact(setRow_other (w1.alloc _) _ _ _ (by omega)).trans ((Bh _ _ _ (by omega)).trans K1.out)
 have m2:W7.heap[bv]? =some (.cells (qh .u64 H) 278 (0,0)):=by rw[hW7,←hbv];exact setRow_heap _ _ _ _ _ _ (Wn _ _)
 have hB7:Below b0 w W7:=by rw[hW7];exact below_setRow (HBW.out.alloc (by omega) _) (by omega) _
 have hbs7:bv<W7.heap.size:=(Ai m2).1;have hbvb:b0+2≤bv:=by omega
 rw[hbv];have M0:=hid m0;have M1:=hid m1;have M2:=hid m2;have HB7:=hid hB7;clear hW7 hbv m0 m1 m2 hB7 K0 K1 HBW hs1 hWs;go_wp2_with fail
 go_loopw [8] (fun i wr=> ∃j:Nat,i= .int .i64 (j:Nat)∧j≤8∧wr.heap[b0+1]? =some (.cells (qh .u64 (Qt H (qG Z8) j)) 257 (0,0))∧But (b0+1) W7 wr) (fun i _=>8 - (intOf i).toNat)
 case atStart=>exact⟨0,rfl,by omega,M1.out,But.refl _ _⟩
 case round=>
  obtain⟨j,rfl,hj,hrow,hb⟩:=hrel;have HROW:=hid hrow;have HB:=hid hb;have hwrs:bv<wr.heap.size:=by have:=hb.size;omega
  have h16:(qG Z8).length=16:=rfl;by_cases hlt:j<8
  case pos=>
   have c0:wr.cell? ⟨bv,j,none⟩=some (.int .u64 (wd H j)):=by rw[qa ((hb.block bv (by omega) (by omega)).trans M2.out) j,Yc (by rw[HHW_.out.1];omega)]
   have hfl:(Qt H (qG Z8) j).length=16:=by rw[yR (by rw[HHW_.out.1];omega) (by omega),h16]
   have c1:wr.cell? ⟨b0+1,j,none⟩=some (.int .u64 (wd (Qt H (qG Z8) j) j)):=by rw[qa hrow j,Yc (by omega)]
   have f1:=frozen_of_row wr (b0+1) j _ _ hrow;have hst:=heap_setCell_same wr (b0+1) j _ _ (.int .u64 (wd H j)) hrow;rw[Qd,zk (by rw[HHW_.out.1];omega) (by omega)]at hst;have hbd:=ym HHW_.out hlt;have HST:=hid hst;have hjj:(j:Int)<8:=by omega
   generalize wd (Qt H (qG Z8) j) j=zo at c1;generalize wd H j=zj at*;obtain⟨hbd1,hbd2⟩:=hbd;clear hst hfl hrow hb h16;go_wp2
   exact⟨⟨j+1,rfl,by omega,HST.out,HB.out.set _ _⟩,by simp[intOf];omega⟩
  obtain rfl:j=8:=by omega
  rw[Jp HHW_.out.1 rfl]at hrow;have n1:=(hb.block b0 (by omega) (by omega)).trans M0.out;have hb9:Below b0 w wr:=HB7.out.trans (hb.below (by omega) (by omega));have hR16:=qX (by decide) HHW_.out;have hwr1:b0+1<wr.heap.size:=by omega
  clear hb h16 hj hlt HROW;go_wp2_with (first|((with_reducible show wpList _ _ _ (Oper.mk (some 51) _ _ _ _ _::_) _ _);refine wpList_load_row rfl 257 _ rfl (b0+1) rfl _ _ _ _ hrow Tryz.underlying257 rfl (by rw[qe,hR16.1];kernel_rfl) ?_)|((with_reducible show wpList _ _ _ (Oper.mk none (Op.store 257 _ _) _ _ _ _::_) _ _);refine wpList_store_row rfl 257 _ _ rfl b0 (qh .u64 (qG H)) rfl rfl 257 _ n1 (by rw[qe,hR16.1];kernel_rfl) (by rw[qe,hR16.1];rfl) qv ?_))
  exact Bp (results_cell_row rfl _ _ b0 257 _ _ _ rfl (setRow_heap _ _ _ _ _ _ n1) Tryz.underlying257 rfl (by rw[qe,hR16.1];kernel_rfl)) rfl ⟨rfl,by rw[hb0];exact below_setRow hb9 Nl _⟩
theorem qa4 (v:Nat→Nat)(z1 z2:List Int)(sa pe kv mv:Value)(la:Bool)(cnt:Int)(np:Nat)(w:World)(hN:yY false w np v sa pe kv la mv cnt)(hP:ParOk false v)(h1:Hold w sa z1)(h2:Hold w pe z2)(hl1:z1.length≤8)(hl2:z2.length≤8):
  Calls Tryz.prog 196 #[.pointer (some ⟨np,0,none⟩)] w fun e w'=>e= .returned (.agg (qh .u64 (qG (h0Z false (QK false v z1 z2)))))∧Below w.heap.size w w':=by
 obtain⟨b0,hb0⟩:=Ex w.heap.size;have hnp:np<b0:=by rw[←hb0];exact(Ai hN).1
 have hEN:=fun(W:World) (hb:Below b0 w W)=>Zu v z1 z2 sa pe W hP (h1.below (hb0▸hb)) (h2.below (hb0▸hb)) hl1 hl2
 have hbz: ∀z∈QK false v z1 z2,0≤z∧z≤255:=zL h1.1 h2.1;have hbl:=yd (big:=false) (v:=v) hl1 hl2;generalize QK false v z1 z2=bs at*;obtain⟨H,hH0⟩:=Ex (h0Z false bs);have hHw:Words 32 8 H:=by rw[←hH0];exact QQ false bs
 have hH1:yn .u32 IVs 4 bs=H:=by rw[←hH0];rfl
 rw[hH0];have hN':w.heap[np]? =some (.cells (rN 2 v sa pe kv la mv cnt) 259 (0,0)):=hN;have HEN_:=hid hEN;have HBZ_:=hid hbz;have HBL_:=hid hbl;have HH1_:=hid hH1;have HHW_:=hid hHw;have HNR:=hid hN';have c30:w.cell? ⟨np,30,none⟩=some (.bool false):=qa hN' 30;have c0n:w.cell? ⟨np,0,none⟩=some (.int .i64 2):=qa hN' 0;have hnpw:np<w.heap.size:=by omega
 clear hN hN' hEN hbz hbl hH0 hH1 hHw hP h1 h2;go_enter Tryz.func196,Tryz.ntmps196
 go_upto_region 4 with(fail)
 have hs2:((w.alloc (.cells #[.int .u64 0,.int .u64 0,.int .u64 0,.int .u64 0,.int .u64 0,.int .u64 0,.int .u64 0,.int .u64 0,.int .u64 0,.int .u64 0,.int .u64 0,.int .u64 0,.int .u64 0,.int .u64 0,.int .u64 0,.int .u64 0] 257)).alloc (.cells #[.int .u64 0,.int .u64 0,.int .u64 0,.int .u64 0,.int .u64 0,.int .u64 0,.int .u64 0,.int .u64 0,.int .u64 0,.int .u64 0,.int .u64 0,.int .u64 0,.int .u64 0,.int .u64 0,.int .u64 0,.int .u64 0] 257)).heap.size=b0+2:=by simp[hb0]
 have r0:((w.alloc (.cells #[.int .u64 0,.int .u64 0,.int .u64 0,.int .u64 0,.int .u64 0,.int .u64 0,.int .u64 0,.int .u64 0,.int .u64 0,.int .u64 0,.int .u64 0,.int .u64 0,.int .u64 0,.int .u64 0,.int .u64 0,.int .u64 0] 257)).alloc (.cells #[.int .u64 0,.int .u64 0,.int .u64 0,.int .u64 0,.int .u64 0,.int .u64 0,.int .u64 0,.int .u64 0,.int .u64 0,.int .u64 0,.int .u64 0,.int .u64 0,.int .u64 0,.int .u64 0,.int .u64 0,.int .u64 0] 257)).heap[b0]? =some (.cells #[.int .u64 0,.int .u64 0,.int .u64 0,.int .u64 0,.int .u64 0,.int .u64 0,.int .u64 0,.int .u64 0,.int .u64 0,.int .u64 0,.int .u64 0,.int .u64 0,.int .u64 0,.int .u64 0,.int .u64 0,.int .u64 0] 257 (0,0)):=by rw[Bh _ _ _ (by simp[hb0]),←hb0];exact Wn _ _
 have r1:((w.alloc (.cells #[.int .u64 0,.int .u64 0,.int .u64 0,.int .u64 0,.int .u64 0,.int .u64 0,.int .u64 0,.int .u64 0,.int .u64 0,.int .u64 0,.int .u64 0,.int .u64 0,.int .u64 0,.int .u64 0,.int .u64 0,.int .u64 0] 257)).alloc (.cells #[.int .u64 0,.int .u64 0,.int .u64 0,.int .u64 0,.int .u64 0,.int .u64 0,.int .u64 0,.int .u64 0,.int .u64 0,.int .u64 0,.int .u64 0,.int .u64 0,.int .u64 0,.int .u64 0,.int .u64 0,.int .u64 0] 257)).heap[b0+1]? =some (.cells (qh .u64 (Qt H (qG Z8) 0)) 257 (0,0)):=by rw[show b0+1=(w.alloc (.cells #[.int .u64 0,.int .u64 0,.int .u64 0,.int .u64 0,.int .u64 0,.int .u64 0,.int .u64 0,.int .u64 0,.int .u64 0,.int .u64 0,.int .u64 0,.int .u64 0,.int .u64 0,.int .u64 0,.int .u64 0,.int .u64 0] 257)).heap.size by simp[hb0]];exact Wn _ _
 have hb2:Below b0 w ((w.alloc (.cells #[.int .u64 0,.int .u64 0,.int .u64 0,.int .u64 0,.int .u64 0,.int .u64 0,.int .u64 0,.int .u64 0,.int .u64 0,.int .u64 0,.int .u64 0,.int .u64 0,.int .u64 0,.int .u64 0,.int .u64 0,.int .u64 0] 257)).alloc (.cells #[.int .u64 0,.int .u64 0,.int .u64 0,.int .u64 0,.int .u64 0,.int .u64 0,.int .u64 0,.int .u64 0,.int .u64 0,.int .u64 0,.int .u64 0,.int .u64 0,.int .u64 0,.int .u64 0,.int .u64 0,.int .u64 0] 257)):=by rw[←hb0];exact(Br.alloc Nl _).alloc (by simp) _
 generalize ((w.alloc (.cells #[.int .u64 0,.int .u64 0,.int .u64 0,.int .u64 0,.int .u64 0,.int .u64 0,.int .u64 0,.int .u64 0,.int .u64 0,.int .u64 0,.int .u64 0,.int .u64 0,.int .u64 0,.int .u64 0,.int .u64 0,.int .u64 0] 257)).alloc (.cells #[.int .u64 0,.int .u64 0,.int .u64 0,.int .u64 0,.int .u64 0,.int .u64 0,.int .u64 0,.int .u64 0,.int .u64 0,.int .u64 0,.int .u64 0,.int .u64 0,.int .u64 0,.int .u64 0,.int .u64 0,.int .u64 0] 257))=W2 at*;have hn2:W2.heap[np]? =some (.cells (rN 2 v sa pe kv la mv cnt) 259 (0,0)):=(hb2.block np hnp).trans HNR.out;have R0:=hid r0;have R1:=hid r1;have HB2:=hid hb2;have HN2:=hid hn2;clear r0 r1 hb2 hn2 c30 c0n HNR hnpw;refine qC (n:=14) (w0:=W2) (B:=W2.heap.size) [.v 21 (.pointer (some ⟨np,0,none⟩)),.v 22 (.pointer (some ⟨np,0,none⟩)),.v 23 (.pointer (some ⟨np,0,none⟩)),.v 24 (.int .i64 2),.v 25 (.pointer (some ⟨np,0,none⟩)),.v 26 (.pointer (some ⟨np,0,none⟩)),.v 27 (.pointer (some ⟨np,1,none⟩)),.v 28 (.agg (qf2 v sa pe)),.p 29 (fun u W=> ∃r,u= .tuple #[r,.int .i64 0]∧W.ownsRow W2.heap.size 5 1 r 32 (bs.map qo)),.p 20 (fun u W=> ∃r,u= .tuple #[r,.int .i64 0]∧W.ownsRow W2.heap.size 5 1 r 32 (bs.map qo)),.p 30 (fun u W=>W.ownsRow W2.heap.size 5 1 u 32 (bs.map qo)),.v 31 (.int .i64 0),.p 4 (fun u W=>W.ownsRow W2.heap.size 5 1 u 32 (bs.map qo)),.v 5 (.int .i64 0)] (by exact⟨(fun _ _ _ h hb=>by obtain⟨r,e,h⟩:=h;exact⟨r,e,qg h (fun g _ hg=>hb.block g hg)⟩),(fun _ _ _ h hb=>by obtain⟨r,e,h⟩:=h;exact⟨r,e,qg h (fun g _ hg=>hb.block g hg)⟩),(fun _ _ _ h hb=>qg h (fun g _ hg=>hb.block g hg)),(fun _ _ _ h hb=>qg h (fun g _ hg=>hb.block g hg)),trivial⟩) Br.drew Nl ?_ ?_
 ·repeat' (with_reducible first|exact qx|refine qt ?_ ?_)
  all_goals try
   intro A x W hA hW hBW hdep D K hK;have a0:=hA.2 0 (by decide);conv at a0=>rhs;whnf
   simp only[QX,Q9]at D;clear hdep hA;go_simp
   exact hK _ _ BR rfl
  ·intro A x W hA hW hBW hdep _ K hK;have g23:=gv hA hdep 2 23;clear hdep hA;have g0:=qd HN2.out hW;have c0:W.cell? ⟨np,0,none⟩=some (.int .i64 2):=qa g0 0;go_simp
   exact hK _ _ BR rfl
  ·intro A x W hA hW hBW hdep _ K hK;have g27:=gv hA hdep 6 27;clear hdep hA;have g0:=qd HN2.out hW;refine Ql 179 _ rfl np 1 g27 259 _ (qf2 v sa pe) (0,0) _ g0 Tryz.underlying179 rfl (by kernel_rfl) (qg2 _ _ _ _ _ _ _ _) (hK _ _ Br rfl)
  ·intro A x W hA hW hBW hdep _ K hK;have g24:=gv hA hdep 3 24;have g28:=gv hA hdep 7 28;clear hdep hA;go_simp
   refine(HEN_.out W (HB2.out.trans (hW.mono (by omega)))).mono ?_;rintro e w' ⟨⟨r,rfl,ho⟩,hb⟩;exact hK _ _ hb ⟨r,rfl,ownsRow_le ho hBW⟩
  ·intro A x W hA hW hBW hdep _ K hK;have g29:(fun u W=> ∃r,u= .tuple #[r,.int .i64 0]∧W.ownsRow W2.heap.size 5 1 r 32 (bs.map qo)) (x 29) W:=hdep ⟨8,.data⟩ (by simp) rfl _ rfl;have a29:A.tmps.getD 29 undef=x 29:=hA.1 29 (by decide);clear hdep hA;go_simp
   exact hK _ _ Br (a29▸g29)
  ·intro A x W hA hW hBW hdep _ K hK;have g20:(fun u W=> ∃r,u= .tuple #[r,.int .i64 0]∧W.ownsRow W2.heap.size 5 1 r 32 (bs.map qo)) (x 20) W:=hdep ⟨9,.data⟩ (by simp) rfl _ rfl;have a20:A.tmps.getD 20 undef=x 20:=hA.1 20 (by decide);clear hdep hA;obtain⟨r,er,hr⟩:=g20;rw[er]at a20;go_simp
   exact hK _ _ Br hr
  ·intro A x W hA hW hBW hdep _ K hK;have g20:(fun u W=> ∃r,u= .tuple #[r,.int .i64 0]∧W.ownsRow W2.heap.size 5 1 r 32 (bs.map qo)) (x 20) W:=hdep ⟨9,.data⟩ (by simp) rfl _ rfl;have a20:A.tmps.getD 20 undef=x 20:=hA.1 20 (by decide);clear hdep hA;obtain⟨r,er,hr⟩:=g20;rw[er]at a20;go_simp
   exact hK _ _ BR rfl
  ·intro A x W hA hW hBW hdep _ K hK;have g30:(fun u W=>W.ownsRow W2.heap.size 5 1 u 32 (bs.map qo)) (x 30) W:=hdep ⟨10,.data⟩ (by simp) rfl _ rfl;have a30:A.tmps.getD 30 undef=x 30:=hA.1 30 (by decide);clear hdep hA;go_simp
   exact hK _ _ Br (a30▸g30)
 intro x W hW hBW hall;obtain⟨e29,e20,e30,e4, -⟩:=hall;change (fun u W=> ∃r,u= .tuple #[r,.int .i64 0]∧W.ownsRow W2.heap.size 5 1 r 32 (bs.map qo)) (x 29) W at e29
 change (fun u W=> ∃r,u= .tuple #[r,.int .i64 0]∧W.ownsRow W2.heap.size 5 1 r 32 (bs.map qo)) (x 20) W at e20
 change (fun u W=>W.ownsRow W2.heap.size 5 1 u 32 (bs.map qo)) (x 30) W at e30
 change (fun u W=>W.ownsRow W2.heap.size 5 1 u 32 (bs.map qo)) (x 4) W at e4
 refine qs ?_;simp only[QE,Act.put,Ls];have hh4:=QZ e4;have hb5:Below b0 w W:=HB2.out.trans (hW.mono (by omega));have g0:=qd HN2.out hW;have r0:=qd R0.out hW;have r1:=qd R1.out hW;have c0n:W.cell? ⟨np,0,none⟩=some (.int .i64 2):=qa g0 0;have hnpw:np<W.heap.size:=(Ai g0).1;have hWs:b0+2≤W.heap.size:=by have:=hW.size;omega
 have R0_:=hid r0;have R1_:=hid r1;have HB5:=hid hb5;have HH4:=hid hh4;clear e29 e20 e30 e4 hh4 hb5 g0 r0 r1 hW hBW R0 R1 HB2 HN2 hs2;go_wp2_with fail
 refine(qes bs _ _ HH4.out HBZ_.out HBL_.out).mono ?_;rintro e w1 ⟨rfl,hb1⟩;rw[HH1_.out];have hs1:=hb1.size;have k0:=qd R0_.out hb1;have k1:=qd R1_.out hb1;have hbw:Below b0 w w1:=HB5.out.trans (hb1.mono (by omega));have K0:=hid k0;have K1:=hid k1;have HBW:=hid hbw;clear k0 k1 hbw hb1 R0_ R1_ HB5 HH4 c0n hnpw;go_upto_region 13 with((with_reducible show wpList _ _ _ (Oper.mk none (Op.store 288 _ _) _ _ _ _::_) _ _);refine wpList_store_row rfl 288 _ _ rfl w1.heap.size (qh .u32 H) rfl rfl 288 _ (Wn _ _) (by rw[qe,HHW_.out.1];kernel_rfl) (by rw[qe,HHW_.out.1];rfl) qv ?_)
 refine qj ?_;intro W7 hW7;obtain⟨bv,hbv⟩:=Ex w1.heap.size;have m0:W7.heap[b0]? =some (.cells #[.int .u64 0,.int .u64 0,.int .u64 0,.int .u64 0,.int .u64 0,.int .u64 0,.int .u64 0,.int .u64 0,.int .u64 0,.int .u64 0,.int .u64 0,.int .u64 0,.int .u64 0,.int .u64 0,.int .u64 0,.int .u64 0] 257 (0,0)):=by rw[hW7];exact(setRow_other (w1.alloc _) _ _ _ (by omega)).trans ((Bh _ _ _ (by omega)).trans K0.out)
 have m1:W7.heap[b0+1]? =some (.cells (qh .u64 (Qt H (qG Z8) 0)) 257 (0,0)):=by rw[hW7];exact(setRow_other (w1.alloc _) _ _ _ (by omega)).trans ((Bh _ _ _ (by omega)).trans K1.out)
 have m2:W7.heap[bv]? =some (.cells (qh .u32 H) 288 (0,0)):=by rw[hW7,←hbv];exact setRow_heap _ _ _ _ _ _ (Wn _ _)
 have hB7:Below b0 w W7:=by rw[hW7];exact below_setRow (HBW.out.alloc (by omega) _) (by omega) _
 have hbs7:bv<W7.heap.size:=(Ai m2).1;have hbvb:b0+2≤bv:=by omega
 rw[hbv];have M0:=hid m0;have M1:=hid m1;have M2:=hid m2;have HB7:=hid hB7;clear hW7 hbv m0 m1 m2 hB7 K0 K1 HBW hs1 hWs;go_wp2_with fail
 go_loopw [11] (fun i wr=> ∃j:Nat,i= .int .i64 (j:Nat)∧j≤8∧wr.heap[b0+1]? =some (.cells (qh .u64 (Qt H (qG Z8) j)) 257 (0,0))∧But (b0+1) W7 wr) (fun i _=>8 - (intOf i).toNat)
 case atStart=>exact⟨0,rfl,by omega,M1.out,But.refl _ _⟩
 case round=>
  obtain⟨j,rfl,hj,hrow,hb⟩:=hrel;have HROW:=hid hrow;have HB:=hid hb;have hwrs:bv<wr.heap.size:=by have:=hb.size;omega
  have h16:(qG Z8).length=16:=rfl;by_cases hlt:j<8
  case pos=>
   have c0:wr.cell? ⟨bv,j,none⟩=some (.int .u32 (wd H j)):=by rw[qa ((hb.block bv (by omega) (by omega)).trans M2.out) j,Yc (by rw[HHW_.out.1];omega)]
   have hfl:(Qt H (qG Z8) j).length=16:=by rw[yR (by rw[HHW_.out.1];omega) (by omega),h16]
   have c1:wr.cell? ⟨b0+1,j,none⟩=some (.int .u64 (wd (Qt H (qG Z8) j) j)):=by rw[qa hrow j,Yc (by omega)]
   have f1:=frozen_of_row wr (b0+1) j _ _ hrow;have hst:=heap_setCell_same wr (b0+1) j _ _ (.int .u64 (wd H j)) hrow;rw[Qd,zk (by rw[HHW_.out.1];omega) (by omega)]at hst;have hbd:=ym HHW_.out hlt;have hcv:IntKind.u64.wrap (wd H j)=wd H j:=u64_wrap_id _ hbd.1 (by have:=hbd.2;simp at this;omega);have HST:=hid hst;have hjj:(j:Int)<8:=by omega
   generalize wd (Qt H (qG Z8) j) j=zo at c1;generalize wd H j=zj at*;obtain⟨hbd1,hbd2⟩:=hbd;clear hst hfl hrow hb h16;go_wp2
   exact⟨⟨j+1,rfl,by omega,HST.out,HB.out.set _ _⟩,by simp[intOf];omega⟩
  obtain rfl:j=8:=by omega
  rw[Jp HHW_.out.1 rfl]at hrow;have n1:=(hb.block b0 (by omega) (by omega)).trans M0.out;have hb9:Below b0 w wr:=HB7.out.trans (hb.below (by omega) (by omega));have hR16:=qX (by decide) HHW_.out;have hwr1:b0+1<wr.heap.size:=by omega
  clear hb h16 hj hlt HROW;go_wp2_with (first|((with_reducible show wpList _ _ _ (Oper.mk (some 67) _ _ _ _ _::_) _ _);refine wpList_load_row rfl 257 _ rfl (b0+1) rfl _ _ _ _ hrow Tryz.underlying257 rfl (by rw[qe,hR16.1];kernel_rfl) ?_)|((with_reducible show wpList _ _ _ (Oper.mk none (Op.store 257 _ _) _ _ _ _::_) _ _);refine wpList_store_row rfl 257 _ _ rfl b0 (qh .u64 (qG H)) rfl rfl 257 _ n1 (by rw[qe,hR16.1];kernel_rfl) (by rw[qe,hR16.1];rfl) qv ?_))
  exact Bp (results_cell_row rfl _ _ b0 257 _ _ _ rfl (setRow_heap _ _ _ _ _ _ n1) Tryz.underlying257 rfl (by rw[qe,hR16.1];kernel_rfl)) rfl ⟨rfl,by rw[hb0];exact below_setRow hb9 Nl _⟩
structure TreeOk (t:TreeV)(kz z1 z2:List Int)(w:World):Prop where
 v:t.validE=0
 l:0≤t.l∧t.l≤4294967295
 k:Hold w (.slice t.ka t.kl t.kc) kz
 s:Hold w (.slice t.sa t.sl t.sc) z1
 p:Hold w (.slice t.pa t.pl t.pc) z2
theorem TreeOk.below {t:TreeV}{kz z1 z2:List Int}{w w':World}(h:TreeOk t kz z1 z2 w)(hb:Below w.heap.size w w'):TreeOk t kz z1 z2 w':=⟨h.v,h.l,h.k.below hb,h.s.below hb,h.p.below hb⟩
theorem Ya {w:World}{a:Option Addr}{n c:Nat}{zs:List Int}(h:Hold w (.slice a n c) zs):zs.length=n:=by
 obtain⟨a',c',e, -, -⟩:=h.slice;simp only[Value.slice.injEq]at e;exact e.2.1.symm
def TreeV.node (t:TreeV)(kz z1 z2:List Int)(row i:Nat)(la rt:Bool)(d:List Int):List Int:=jJ t.big (t.blk z1 z2 row i) (YG row kz) la (t.outN rt) d
theorem yG (t:TreeV)(kz z1 z2:List Int)(row i:Nat)(la rt:Bool)(d:List Int): ∀a∈t.node kz z1 z2 row i la rt d,0≤a∧a≤255:=fun a ha=>qdz _ _ _ _ a (List.mem_of_mem_take ha)
theorem Jj (big:Bool)(bs kz ds:List Int)(la:Bool)(o:Int)(bv kv dv:Value)(w:World)(hB:Hold w bv bs)(hK:Hold w kv kz)(hD:Hold w dv ds)(hdl:(ds.length:Int)≤140737488355200)(hok:okD big false bs)(hkb0:Yh bs kz=false)(ho:1≤o∧o≤(mB big:Nat)):
  Calls Tryz.prog 64 #[.agg (yF (kB big) bv kv la o dv)] w fun e w'=>qbw big bs kz la o ds w e w':=by
 cases big
 ·exact qe6 bs kz ds la o bv kv dv w hB hK hD hdl hok hkb0 ho
 ·exact qgr bs kz ds la o bv kv dv w hB hK hD hdl hok hkb0 ho
theorem TreeOk.okD {t:TreeV}{kz z1 z2:List Int}{w:World}(h:TreeOk t kz z1 z2 w){row at_:Nat}(hr:row≤255)(ha:at_<281474976710656):
  Go.Proofs.YtahenngmaoellaaGreat.okD t.big false (t.blk z1 z2 row at_)∧Yh (t.blk z1 z2 row at_) (YG row kz)=false∧(∀z∈t.blk z1 z2 row at_,0≤z∧z≤255)∧ ∀rt:Bool,1≤t.outN rt∧t.outN rt≤(mB t.big:Nat):=by
 have hvf:=qk h.v;have hmb:=yg h.v;have e1:=Ya h.s;have e2:=Ya h.p;have e3:=Ya h.k;obtain⟨h1,h2⟩:=qfq (z1:=z1) (z2:=z2) (Z7 h.v h.l hr ha) (by omega) (by omega);refine⟨h1,?_,zL h.s.1 h.p.1,fun rt=>?_⟩
 ·have h3:qn (t.blk z1 z2 row at_) 1=(t.kl:Int):=h2;unfold Yh YG;rw[h3];refine decide_eq_false ?_;split
  ·omega
  ·simp
 ·obtain⟨-,d1,d2,d3,d4, -⟩:=hvf
  cases rt
  ·show 1≤t.i∧t.i≤_;omega
  ·show 1≤t.d∧t.d≤_;omega
theorem qh6 {t:TreeV}{kz z1 z2:List Int}{w:World}(h:TreeOk t kz z1 z2 w){row at_:Nat}(hr:row≤255)(ha:at_<281474976710656)(la rt:Bool)(ds:List Int)(dv bv kv:Value)(W:World)(b:Nat)
  (ho:W.ownsRow b 5 1 bv (mB t.big) ((t.blk z1 z2 row at_).map qo)) (hk:W.ownsRow b 5 1 kv (YG row kz).length ((YG row kz).map qo)) (hd:Hold W dv ds) (hl:ds.length≤1073741824):
  Calls Tryz.prog 64 #[.agg (yF t.k bv kv la (t.outN rt) dv)] W fun e w'=> ∃u,e= .returned (.tuple #[u,.int .i64 0])∧OwnB W.heap.size w' u (t.node kz z1 z2 row at_ la rt ds)∧Below W.heap.size W w':=by
 obtain⟨h1,h2,h3,h4⟩:=h.okD hr ha;have hkz: ∀z∈YG row kz,0≤z∧z≤255:=fun z hz=>by
  unfold YG at hz;split at hz
  ·exact h.k.1 z hz
  ·cases hz
 rw[←yT h.v];refine(Jj t.big _ _ ds la _ bv kv dv W (Qc ho h3) (Qc hk hkz) hd (by omega) h1 h2 (h4 rt)).mono ?_;rintro e w' ⟨⟨u,rfl,hu⟩,hb⟩
 exact⟨u,rfl,⟨yG t kz z1 z2 row at_ la rt ds,hu⟩,hb⟩
def TreeV.rowZ (t:TreeV)(kz z1 z2:List Int)(row:Nat)(rt:Bool)(L:List (List Int))(m:Nat):List (List Int):=(List.range m).map fun i=>t.node kz z1 z2 row i (decide (i+1=L.length)) rt (qz L i)
theorem Y8 (t:TreeV)(kz z1 z2:List Int)(row:Nat)(rt:Bool)(L:List (List Int))(m:Nat):t.rowZ kz z1 z2 row rt L (m+1)=t.rowZ kz z1 z2 row rt L m++[t.node kz z1 z2 row m (decide (m+1=L.length)) rt (qz L m)]:=by simp[TreeV.rowZ,List.range_succ]
theorem TreeV.rowZ_length (t:TreeV)(kz z1 z2:List Int)(row:Nat)(rt:Bool)(L:List (List Int))(m:Nat):(t.rowZ kz z1 z2 row rt L m).length=m:=by simp[TreeV.rowZ]
theorem qbj {n:Nat}(zs:List Int)(hn:1≤n):1≤(QH n zs).length∧(QH n zs).length≤zs.length+1:=by
 unfold QH;split
 ·exact⟨Nat.le_refl _,by simp⟩
 ·rename_i h;have h1:=List.length_pos_iff.2 h;rw[Qq];have:=yS (n:=zs.length) hn
  have:=z8 (d:=n) (show 1≤zs.length from h1)
  omega
theorem qdT {n:Nat}(zs:List Int)(i:Nat):(qz (QH n zs) i).length≤zs.length:=by
 unfold QH;split
 ·cases i<;>simp[qz]
 ·unfold qz zn;rw[Lg,List.getElem?_map]
  cases(List.range (qH zs.length n))[i]? with
  | none=>simp
  | some j=>exact(JL n zs j).length_le
end Go.Proofs.YtahenngmaoellaaGreat
namespace Go.Proofs.YtahenngmaoellaaGreat
open Go.ChangeShapes Go.WideShapes Go.ChangeAt Go.RowKit Go.Joins Go.Shelf Go.Maps
open Go.Lib (hid)
def TreeV.lvlZ (t:TreeV)(kz z1 z2:List Int)(L0:List (List Int)):Nat→List (List Int)
 | 0=>L0
 | r+1=>t.rowZ kz z1 z2 (r+1) (t.rootZ (r+1) (t.lvlZ kz z1 z2 L0 r).length) (t.upZ (r+1) (t.lvlZ kz z1 z2 L0 r)) (t.upZ (r+1) (t.lvlZ kz z1 z2 L0 r)).length
def TreeV.topAt (t:TreeV)(kz z1 z2:List Int)(L0:List (List Int))(R:Nat):Prop:=1≤R∧t.rootZ R (t.lvlZ kz z1 z2 L0 (R - 1)).length=true∧ ∀q,1≤q→q<R→t.rootZ q (t.lvlZ kz z1 z2 L0 (q - 1)).length=false
theorem qaC {t:TreeV}{kz z1 z2:List Int}{L0:List (List Int)}{R S:Nat}(h:t.topAt kz z1 z2 L0 R)(k:t.topAt kz z1 z2 L0 S):R=S:=by
 rcases Nat.lt_trichotomy R S with h1|h1|h1
 ·have:=k.2.2 R h.1 h1;rw[h.2.1]at this;cases this
 ·exact h1
 ·have:=h.2.2 S k.1 h1;rw[k.2.1]at this;cases this
theorem J5 {t:TreeV}{row n:Nat}(h:(row:Int)=t.p - 1):t.rootZ row n=true:=decide_eq_true (.inr (.inl h))
theorem zi {t:TreeV}(h:t.validE=0){row n:Nat}(hr:t.rootZ row n=false):2≤t.fn∧t.fn<n∧t.fn≤255:=by
 have h1:=(qk h).2.2.2.2.2.1;have h2: ¬(t.f=0∨(row:Int)=t.p - 1∨(n:Int)≤t.f):=of_decide_eq_false hr;unfold TreeV.fn;omega
theorem zS {t:TreeV}(h:t.validE=0)(row:Nat){L:List (List Int)}(hL:L≠[]):1≤(t.upZ row L).length∧(t.upZ row L).length≤L.length:=by
 have hp:=List.length_pos_iff.2 hL;unfold TreeV.upZ
 cases hr:t.rootZ row L.length with
 | true=>exact⟨Nat.le_refl _,hp⟩
 | false=>
  have:=zi h hr
  rw[if_neg (by simp),Qf];exact⟨z8 hp,yS (by omega)⟩
theorem Z6 (t:TreeV)(row:Nat)(L:List (List Int))(i:Nat):(qz (t.upZ row L) i).length≤L.flatten.length:=by
 unfold TreeV.upZ;split
 ·cases i<;>simp[qz]
 ·unfold qz zZ;rw[Lg,List.getElem?_map]
  cases(List.range (qH L.length t.fn))[i]? with
  | none=>simp
  | some j=>exact Yx (JL t.fn L j)
theorem qbq (t:TreeV)(kz z1 z2:List Int)(row i:Nat)(la rt:Bool)(d:List Int):(t.node kz z1 z2 row i la rt d).length≤64:=by
 have h1:(zp t.big (h0Z t.big (t.blk z1 z2 row i)) (yh (bB t.big) (YG row kz)++d) la).length=mB t.big:=zD _ _ _ _;have h2:mB t.big≤64:=by cases t.big<;>decide
 unfold TreeV.node jJ;rw[List.length_take];omega
theorem Zx (t:TreeV)(kz z1 z2:List Int)(row:Nat)(rt:Bool)(L:List (List Int))(m:Nat): ∀z∈t.rowZ kz z1 z2 row rt L m,z.length≤64:=fun z hz=>by
 obtain⟨i, -,rfl⟩:=List.mem_map.1 hz;exact qbq ..
theorem YP: ∀{L:List (List Int)},(∀z∈L,z.length≤64)→L.flatten.length≤64*L.length
 | [],_=>Nat.le_refl _
 | z::L,h=>by
  have h1:=h z (List.mem_cons_self ..);have h2:=YP (L:=L) (fun y hy=>h y (List.mem_cons_of_mem _ hy));simp only[List.flatten_cons,List.length_append,List.length_cons];omega
theorem Qa {t:TreeV}(h:t.validE=0)(kz z1 z2:List Int){L0:List (List Int)}(h0:L0≠[])(h1: ∀z∈L0,z.length≤64): ∀r,t.lvlZ kz z1 z2 L0 r≠[]∧(t.lvlZ kz z1 z2 L0 r).length≤L0.length∧ ∀z∈t.lvlZ kz z1 z2 L0 r,z.length≤64
 | 0=>⟨h0,Nat.le_refl _,h1⟩
 | r+1=>by
  obtain⟨i1,i2,i3⟩:=Qa h kz z1 z2 h0 h1 r;have hu:=zS h (r+1) i1;have hl:(t.lvlZ kz z1 z2 L0 (r+1)).length=(t.upZ (r+1) (t.lvlZ kz z1 z2 L0 r)).length:=TreeV.rowZ_length ..;exact⟨List.length_pos_iff.1 (by omega),by omega,fun z hz=>Zx _ _ _ _ _ _ _ _ z hz⟩
end Go.Proofs.YtahenngmaoellaaGreat
namespace Go.Proofs.YtahenngmaoellaaGreat
open Go.ChangeShapes Go.WideShapes Go.ChangeAt Go.RowKit Go.Joins Go.Shelf Go.Maps
open Go.Lib (hid)
attribute [local go_sem] Oper.semAt_some
theorem ListO.get {B:Nat}{w:World}{v:Value}{L:List (List Int)}(h:ListO B w v L){i:Nat}(hi:i<L.length): ∃g cap x,v= .slice (some ⟨g,0,none⟩) L.length cap∧g<w.heap.size∧w.cell? ⟨g,i,none⟩=some x∧OwnB B w x (qz L i):=by
 obtain⟨vs,ho,hx⟩:=h;have hl:vs.length=L.length:=by have:=ho.1;simpa using this
 rcases ho.2 with⟨rfl,h0⟩|⟨g,cap,cur,rfl,h1,h2,h3,h4,h5,h6⟩
 ·omega
 ·refine⟨g,cap,vs.getD i undef,rfl,(Ai h2).1,?_,hx i hi⟩;rw[qa h2 i];have e:cur.toList[i]? =vs[i]? :=by rw[←h6,List.getElem?_take,if_pos (by omega)]
  rw[←Array.getElem?_toList,e,Lg,List.getElem?_eq_getElem (by omega)];rfl
structure CallS where
 k:Int
 bs:List Int
 kz:List Int
 la:Bool
 o:Int
 ds:List Int
def CallS.zero:CallS:=⟨0,[],[],false,0,[]⟩
def KeepH (w0:World)(B:Nat)(w:World)(v:Value)(z:List Int):Prop:=OwnB B w v z∨Hold w0 v z∧Below w0.heap.size w0 w
theorem KeepH.hold {w0 w:World}{B:Nat}{v:Value}{z:List Int}(h:KeepH w0 B w v z):Hold w v z:=by
 rcases h with h|⟨h,hb⟩
 ·exact h.hold
 ·exact h.below hb
theorem KeepH.kb {w0 w w':World}{B b:Nat}{v:Value}{z:List Int}(h:KeepH w0 B w v z)(hb:w0.heap.size≤b)(k:KB b w w'):KeepH w0 B w' v z:=by
 rcases h with h|⟨h,h2⟩
 ·exact .inl (h.kb k)
 ·exact .inr ⟨h,h2.trans (k.below.mono hb)⟩
theorem KeepH.le {w0 w:World}{B b:Nat}{v:Value}{z:List Int}(h:KeepH w0 B w v z)(hb:b≤B):KeepH w0 b w v z:=by
 rcases h with h|h
 ·exact .inl (h.le hb)
 ·exact .inr h
def CallAt (w0:World)(B:Nat)(w:World)(s:CallS)(c:List Value):Prop:=
 ∃a1 n1 c1 a2 n2 c2 a3 n3 c3,c=[.int .i64 s.k,.slice a1 n1 c1,.slice a2 n2 c2,.bool s.la,.int .i64 s.o,.slice a3 n3 c3]∧OwnB B w (.slice a1 n1 c1) s.bs∧KeepH w0 B w (.slice a2 n2 c2) s.kz∧KeepH w0 B w (.slice a3 n3 c3) s.ds
theorem CallAt.kb {w0 w w':World}{B b:Nat}{s:CallS}{c:List Value}(h:CallAt w0 B w s c)(hb:w0.heap.size≤b)(k:KB b w w'):CallAt w0 B w' s c:=by
 obtain⟨a1,n1,c1,a2,n2,c2,a3,n3,c3,e,h1,h2,h3⟩:=h;exact⟨a1,n1,c1,a2,n2,c2,a3,n3,c3,e,h1.kb k,h2.kb hb k,h3.kb hb k⟩
theorem CallAt.le {w0 w:World}{B b:Nat}{s:CallS}{c:List Value}(h:CallAt w0 B w s c)(hb:b≤B):CallAt w0 b w s c:=by
 obtain⟨a1,n1,c1,a2,n2,c2,a3,n3,c3,e,h1,h2,h3⟩:=h;exact⟨a1,n1,c1,a2,n2,c2,a3,n3,c3,e,h1.le hb,h2.le hb,h3.le hb⟩
def CallsO (w0:World)(B:Nat)(w:World)(v:Value)(S:List CallS):Prop:=
 ∃cs:List (List Value),cs.length=S.length∧w.ownsRow B 73 6 v S.length cs.flatten∧ ∀i,i<S.length→CallAt w0 B w (S.getD i .zero) (cs.getD i [])
theorem CallsO.nil (w0:World)(B:Nat)(w:World):CallsO w0 B w (.slice none 0 0) []:=⟨[],rfl,Wo _ _ _ _,fun i hi=>by simp at hi⟩
theorem CallsO.kb {w0 w w':World}{B b:Nat}{v:Value}{S:List CallS}(h:CallsO w0 B w v S)(hb:w0.heap.size≤b)(k:KB b w w')(hs: ∀g,v.ownBlock=some g→w'.heap[g]? =w.heap[g]?):CallsO w0 B w' v S:=by
 obtain⟨cs,hl,ho,hx⟩:=h;refine⟨cs,hl,⟨ho.1,?_⟩,fun i hi=>(hx i hi).kb hb k⟩;rcases ho.2 with h2|⟨g,cap,cur,rfl,h1,h2,h3⟩
 ·exact .inl h2
 ·exact .inr ⟨g,cap,cur,rfl,h1,by rw[hs g rfl];exact h2,h3⟩
theorem qM {w:World}{B T n s:Nat}{v:Value}{xs:List Value}(ho:w.ownsRow B T s v n xs): ∀g,v.ownBlock=some g→g<w.heap.size:=by
 intro g hg;rcases ho.2 with⟨rfl, -⟩|⟨g',cap,cur,rfl, -,h2, -⟩
 ·cases hg
 ·simp only[Value.ownBlock,Option.some.injEq]at hg;subst hg;exact(Ai h2).1
theorem CallsO.below {w0 w w':World}{B:Nat}{v:Value}{S:List CallS}(h:CallsO w0 B w v S)(hw:w0.heap.size≤w.heap.size)(k:Below w.heap.size w w'):CallsO w0 B w' v S:=by
 refine h.kb hw (KB.of_below k Nl) fun g hg=>?_
 obtain⟨cs, -,ho, -⟩:=h;exact k.block g (qM ho g hg)
theorem CallsO.le {w0 w:World}{B b:Nat}{v:Value}{S:List CallS}(h:CallsO w0 B w v S)(hb:b≤B):CallsO w0 b w v S:=by
 obtain⟨cs,hl,ho,hx⟩:=h;exact⟨cs,hl,ownsRow_le ho hb,fun i hi=>(hx i hi).le hb⟩
theorem qQ {α:Type}(L:List α)(x d:α)(i:Nat):(L++[x]).getD i d=if i<L.length then L.getD i d else if i=L.length then x else d:=by
 simp only[Lg];by_cases h:i<L.length
 ·rw[List.getElem?_append_left h,if_pos h]
 ·rw[if_neg h,List.getElem?_append_right (by omega)];by_cases h2:i=L.length
  ·subst h2;simp
  ·rw[if_neg h2,List.getElem?_eq_none (by simp;omega)];rfl
theorem CallsO.snoc {w0 w w':World}{B:Nat}{v':Value}{S:List CallS}{s:CallS}{cs:List (List Value)}{c:List Value}(hx: ∀i,i<S.length→CallAt w0 B w (S.getD i .zero) (cs.getD i []))(hl:cs.length=S.length)(hz:CallAt w0 B w s c)
  (ho:w'.ownsRow B 73 6 v' (S.length+1) (cs.flatten++c)) (hb:w0.heap.size≤B) (hk:KB B w w'):CallsO w0 B w' v' (S++[s]):=by
 refine⟨cs++[c],by simp[hl],by simpa using ho,fun i hi=>?_⟩;simp only[List.length_append,List.length_singleton]at hi;rw[qQ,qQ,hl];by_cases h:i<S.length
 ·rw[if_pos h,if_pos h];exact(hx i h).kb hb hk
 ·rw[if_neg h,if_neg h,if_pos (by omega),if_pos (by omega)];exact hz.kb hb hk
theorem yN {W W':World}{B1 B2 T1 T2 s1 s2 n1 n2:Nat}{v1 v2:Value}{x1 x2:List Value}(h1:W.ownsRow B1 T1 s1 v1 n1 x1)(h2:W.ownsRow B2 T2 s2 v2 n2 x2)(hT:T1≠T2)(h:Spare (fun k=>v1.ownBlock≠some k) W W'): ∀g,v2.ownBlock=some g→W'.heap[g]? =W.heap[g]? :=by
 intro g hg;refine h.block g (qM h2 g hg) fun e=>?_
 rcases h1.2 with⟨rfl, -⟩|⟨g1,k1,c1,rfl, -,p1, -⟩
 ·cases e
 rcases h2.2 with⟨rfl, -⟩|⟨g2,k2,c2,rfl, -,p2, -⟩
 ·cases hg
 simp only[Value.ownBlock,Option.some.injEq]at e hg;subst e hg;rw[p1]at p2;simp only[Option.some.injEq,Obj.cells.injEq]at p2;exact hT p2.2.1
theorem QV {W W':World}{B T s n:Nat}{v:Value}{xs:List Value}(h:W.ownsRow B T s v n xs)(hs: ∀g,v.ownBlock=some g→W'.heap[g]? =W.heap[g]?):W'.ownsRow B T s v n xs:=by
 refine⟨h.1,?_⟩;rcases h.2 with h2|⟨g,cap,cur,rfl,h1,h2,h3⟩
 ·exact .inl h2
 ·exact .inr ⟨g,cap,cur,rfl,h1,by rw[hs g rfl];exact h2,h3⟩
theorem QT {W:World}{B T s n:Nat}{v:Value}{xs:List Value}(h:W.ownsRow B T s v n xs): ∃a n c,v= .slice a n c:=by
 rcases h.2 with⟨rfl, -⟩|⟨g,cap,cur,rfl, -⟩
 ·exact⟨_,_,_,rfl⟩
 ·exact⟨_,_,_,rfl⟩
def LevO (w0:World)(B:Nat)(w:World)(v:Value)(SS:List (List CallS)):Prop:=
 ∃vs:List Value,w.ownsRow B 115 1 v SS.length vs∧ ∀i,i<SS.length→CallsO w0 B w (vs.getD i undef) (SS.getD i [])
theorem LevO.nil (w0:World)(B:Nat)(w:World):LevO w0 B w (.slice none 0 0) []:=⟨[],Wo _ _ _ _,fun i hi=>by simp at hi⟩
theorem LevO.below {w0 w w':World}{B:Nat}{v:Value}{SS:List (List CallS)}(h:LevO w0 B w v SS)(hw:w0.heap.size≤w.heap.size)(k:Below w.heap.size w w'):LevO w0 B w' v SS:=by
 obtain⟨vs,ho,hx⟩:=h;exact⟨vs,qg ho (fun g _ g2=>k.block g g2),fun i hi=>(hx i hi).below hw k⟩
theorem LevO.le {w0 w:World}{B b:Nat}{v:Value}{SS:List (List CallS)}(h:LevO w0 B w v SS)(hb:b≤B):LevO w0 b w v SS:=by
 obtain⟨vs,ho,hx⟩:=h;exact⟨vs,ownsRow_le ho hb,fun i hi=>(hx i hi).le hb⟩
theorem LevO.snoc {w0 w w':World}{B:Nat}{v v' x:Value}{SS:List (List CallS)}{S:List CallS}{vs:List Value}(ho:w.ownsRow B 115 1 v SS.length vs)(hx: ∀i,i<SS.length→CallsO w0 B w (vs.getD i undef) (SS.getD i []))(hz:CallsO w0 B w x S)
  (ho':w'.ownsRow B 115 1 v' (SS.length+1) (vs++[x])) (hb:w0.heap.size≤B) (hk:KB B w w') (hsp:Spare (fun k=>v.ownBlock≠some k) w w'):LevO w0 B w' v' (SS++[S]):=by
 have hl:vs.length=SS.length:=by have:=ho.1;simpa using this
 have one: ∀u S,CallsO w0 B w u S→CallsO w0 B w' u S:=fun u S h=>by
  refine h.kb hb hk fun g hg=>?_
  obtain⟨cs, -,h2, -⟩:=h;exact yN ho h2 (by decide) hsp g hg
 refine⟨vs++[x],by simpa using ho',fun i hi=>?_⟩;simp only[List.length_append,List.length_singleton]at hi;rw[qQ,qQ,hl];by_cases h:i<SS.length
 ·rw[if_pos h,if_pos h];exact one _ _ (hx i h)
 ·rw[if_neg h,if_neg h,if_pos (by omega),if_pos (by omega)];exact one _ _ hz
theorem JV:(Tryz.prog.info? 73).map (fun i=>(i.zero,i.size,i.bytes))=some (some (.agg #[.int .i64 0,.slice none 0 0,.slice none 0 0,.bool false,.int .i64 0,.slice none 0 0]),6,96):=by kernel_rfl
theorem qbd:(Tryz.prog.info? 115).map (fun i=>(i.zero,i.size,i.bytes))=some (some (.slice none 0 0),1,24):=by kernel_rfl
theorem jB {ops:Array Oper}{rest:List Oper}{o:Oper}{act:Act}{w:World}{Q:Exit→Act→World→Prop}(hg:o.guard=none)(x:Operand)(ho:o.op= .buildSlice 115 1 #[(0,x)])(x0 x1 x2 x3 x4 x5:Value)(hx:act.eval x= .agg #[x0,x1,x2,x3,x4,x5])
  (h:wpList Tryz.prog ops Q rest (act.put o.dst (.slice (some ⟨w.heap.size,0,none⟩) 1 1)) (w.alloc (.cells #[x0,x1,x2,x3,x4,x5] 73))):wpList Tryz.prog ops Q (o::rest) act w:=by
 obtain⟨ib,hib,hzb,hsb, -⟩:=info_parts JV;exact wpList_buildSlice hg 115 73 1 _ ho #[x0,x1,x2,x3,x4,x5] ib _ Tryz.underlying115 hib hzb (by rw[hsb];decide) (by rw[hsb];decide) (by rw[hsb,show Array.range (1*6)= #[0,1,2,3,4,5] by decide];simp[hx,Instr.fill,Value.cells]) h
theorem qbA {ops:Array Oper}{rest:List Oper}{o:Oper}{act:Act}{w:World}{Q:Exit→Act→World→Prop}(hg:o.guard=none)(x:Operand)(ho:o.op= .buildSlice 118 1 #[(0,x)])(a:Option Addr)(n k:Nat)(hx:act.eval x= .slice a n k)
  (h:wpList Tryz.prog ops Q rest (act.put o.dst (.slice (some ⟨w.heap.size,0,none⟩) 1 1)) (w.alloc (.cells #[.slice a n k] 115))):wpList Tryz.prog ops Q (o::rest) act w:=by
 obtain⟨ib,hib,hzb,hsb, -⟩:=info_parts qbd;exact wpList_buildSlice hg 118 115 1 _ ho #[.slice a n k] ib _ Tryz.underlying118 hib hzb (by rw[hsb];decide) (by rw[hsb];decide) (by rw[hsb,show Array.range (1*1)= #[0] by decide];simp[hx,Instr.fill,Value.cells]) h
def TreeV.callS (t:TreeV)(kz z1 z2:List Int)(row i:Nat)(la rt:Bool)(d:List Int):CallS:=⟨t.k,t.blk z1 z2 row i,YG row kz,la,t.outN rt,d⟩
def TreeV.rowC (t:TreeV)(kz z1 z2:List Int)(row:Nat)(rt:Bool)(L:List (List Int))(m:Nat):List CallS:=(List.range m).map fun i=>t.callS kz z1 z2 row i (decide (i+1=L.length)) rt (qz L i)
theorem Y9 (t:TreeV)(kz z1 z2:List Int)(row:Nat)(rt:Bool)(L:List (List Int))(m:Nat):t.rowC kz z1 z2 row rt L (m+1)=t.rowC kz z1 z2 row rt L m++[t.callS kz z1 z2 row m (decide (m+1=L.length)) rt (qz L m)]:=by simp[TreeV.rowC,List.range_succ]
theorem qO (t:TreeV)(kz z1 z2:List Int)(row:Nat)(rt:Bool)(L:List (List Int))(m:Nat):(t.rowC kz z1 z2 row rt L m).length=m:=by simp[TreeV.rowC]
def TreeV.leafZ (t:TreeV)(kz z1 z2 zs:List Int):List (List Int):=t.rowZ kz z1 z2 0 false (QH t.ln zs) (QH t.ln zs).length
theorem Qb {t:TreeV}(h:t.validE=0)(hl:0≤t.l∧t.l≤4294967295)(kz z1 z2 zs:List Int):t.leafZ kz z1 z2 zs≠[]∧(t.leafZ kz z1 z2 zs).length≤zs.length+1∧ ∀z∈t.leafZ kz z1 z2 zs,z.length≤64:=by
 have hln:1≤t.ln:=by
  have:=(qk h).2.2.2.2.2.2.2.2.1
  unfold TreeV.ln;omega
 have h1:=qbj zs hln;have h2:(t.leafZ kz z1 z2 zs).length=(QH t.ln zs).length:=TreeV.rowZ_length ..;exact⟨List.length_pos_iff.1 (by omega),by omega,fun z hz=>Zx _ _ _ _ _ _ _ _ z hz⟩
structure Tend (F:Nat→Prop)(w w':World):Prop where
 sp:Spare (fun k=> ¬F k) w w'
 bytes: ∀(k:Nat) (c:Array Value),w.heap[k]? =some (.cells c 5 (0,0))→w'.heap[k]? =some (.cells c 5 (0,0))
theorem OwnB.tend {B:Nat}{w w':World}{x:Value}{z:List Int}(h:OwnB B w x z)(hb: ∀(k:Nat) (c:Array Value),w.heap[k]? =some (.cells c 5 (0,0))→w'.heap[k]? =some (.cells c 5 (0,0))):OwnB B w' x z:=by
 refine⟨h.1,?_⟩;rcases h.2 with h|⟨g,cap,cur,e,h1,h2,h3⟩
 ·exact .inl h
 ·exact .inr ⟨g,cap,cur,e,h1,hb _ _ h2,h3⟩
theorem ListO.tend {B:Nat}{w w':World}{v:Value}{L:List (List Int)}(h:ListO B w v L)(hb: ∀(k:Nat) (c:Array Value),w.heap[k]? =some (.cells c 5 (0,0))→w'.heap[k]? =some (.cells c 5 (0,0)))(hs: ∀g,v.ownBlock=some g→w'.heap[g]? =w.heap[g]?):ListO B w' v L:=by
 obtain⟨vs,ho,hx⟩:=h;exact⟨vs,QV ho hs,fun i hi=>(hx i hi).tend hb⟩
theorem ListO.block_lt {B:Nat}{w:World}{v:Value}{L:List (List Int)}(h:ListO B w v L): ∀g,v.ownBlock=some g→g<w.heap.size:=by
 obtain⟨vs,ho, -⟩:=h;exact qM ho
structure Seer (t:TreeV)(kz z1 z2:List Int)(w0:World)(fk bl:Nat)(I:List (List CallS)→List CallS→(Nat→Prop)→World→Prop):Prop where
 lt: ∀{done cur F w},I done cur F w→ ∀k,F k→w0.heap.size≤k∧k<w.heap.size
 keep: ∀{done cur F w w'},I done cur F w→Below w0.heap.size w w'→(∀k,F k→w'.heap[k]? =w.heap[k]?)→(∀(k:Nat) (c:Array Value),w.heap[k]? =some (.cells c 5 (0,0))→w'.heap[k]? =some (.cells c 5 (0,0)))→I done cur F w'
 next: ∀{done cur F w},cur≠[]→I done cur F w→I (done++[cur]) [] F w
 see: ∀{done cur F w} {row i:Nat} {la rt:Bool} {d:List Int} {bv kv dv:Value},I done cur F w→done.length=row→row≤255→i≤8388608→(∀l∈done,l.length≤8388608)→cur.length≤8388608→Below w0.heap.size w0 w→
  w.ownsRow w0.heap.size 5 1 bv (mB t.big) ((t.blk z1 z2 row i).map qo)→w.ownsRow w0.heap.size 5 1 kv (YG row kz).length ((YG row kz).map qo)→OwnB w0.heap.size w dv d→d.length≤1073741824→
  Calls Tryz.prog fk #[.agg (yF t.k bv kv la (t.outN rt) dv),.int .i64 (row:Nat),.pointer (some ⟨bl,0,none⟩)] w fun e w'=> ∃u F',e= .returned u∧OwnB w.heap.size w' u (t.node kz z1 z2 row i la rt d)∧(∀k,F' k→F k∨w.heap.size≤k)∧I done (cur++[t.callS kz z1 z2 row i la rt d]) F' w'∧Tend F w w'
def TreeV.dataR (t:TreeV)(kz z1 z2 zs:List Int):Nat→List (List Int)
 | 0=>QH t.ln zs
 | r+1=>t.upZ (r+1) (t.lvlZ kz z1 z2 (t.leafZ kz z1 z2 zs) r)
def TreeV.rtR (t:TreeV)(kz z1 z2 zs:List Int):Nat→Bool
 | 0=>false
 | r+1=>t.rootZ (r+1) (t.lvlZ kz z1 z2 (t.leafZ kz z1 z2 zs) r).length
def TreeV.callsR (t:TreeV)(kz z1 z2 zs:List Int)(r:Nat):List CallS:=t.rowC kz z1 z2 r (t.rtR kz z1 z2 zs r) (t.dataR kz z1 z2 zs r) (t.dataR kz z1 z2 zs r).length
def TreeV.allC (t:TreeV)(kz z1 z2 zs:List Int)(m:Nat):List (List CallS):=(List.range m).map (t.callsR kz z1 z2 zs)
theorem TreeV.lvl_is (t:TreeV)(kz z1 z2 zs:List Int)(r:Nat):t.lvlZ kz z1 z2 (t.leafZ kz z1 z2 zs) r=t.rowZ kz z1 z2 r (t.rtR kz z1 z2 zs r) (t.dataR kz z1 z2 zs r) (t.dataR kz z1 z2 zs r).length:=by
 cases r<;>rfl
theorem TreeV.allC_succ (t:TreeV)(kz z1 z2 zs:List Int)(m:Nat):t.allC kz z1 z2 zs (m+1)=t.allC kz z1 z2 zs m++[t.callsR kz z1 z2 zs m]:=by simp[TreeV.allC,List.range_succ]
theorem TreeV.allC_length (t:TreeV)(kz z1 z2 zs:List Int)(m:Nat):(t.allC kz z1 z2 zs m).length=m:=by simp[TreeV.allC]
theorem zO {t:TreeV}(h:t.validE=0)(hl:0≤t.l∧t.l≤4294967295)(kz z1 z2 zs:List Int)(r:Nat):1≤(t.dataR kz z1 z2 zs r).length∧(t.dataR kz z1 z2 zs r).length≤zs.length+1∧ ∀i,(qz (t.dataR kz z1 z2 zs r) i).length≤64*(zs.length+1):=by
 have hL:=Qb h hl kz z1 z2 zs;have hln:1≤t.ln:=by
  have:=(qk h).2.2.2.2.2.2.2.2.1
  unfold TreeV.ln;omega
 cases r with
 | zero=>
  have h1:=qbj zs hln;exact⟨h1.1,h1.2,fun i=>by have:=qdT (n:=t.ln) zs i;show(qz (QH t.ln zs) i).length≤_;omega⟩
 | succ r=>
  have hF:=Qa h kz z1 z2 hL.1 hL.2.2 r;have h1:=zS h (r+1) hF.1;refine⟨h1.1,?_,fun i=>?_⟩
  ·show(t.upZ (r+1) _).length≤_;omega
  ·have h2:=Z6 t (r+1) (t.lvlZ kz z1 z2 (t.leafZ kz z1 z2 zs) r) i;have h3:=YP hF.2.2;show(qz (t.upZ (r+1) _) i).length≤_
   omega
theorem qck {ops:Array Oper}{rest:List Oper}{o:Oper}{a:Act}{Q:Exit→Act→World→Prop}{W:World}(hgd:o.guard=none)(s x:Operand)
  (ho:o.op= .call { callee:= .builtin .append,args:= #[s,x],argTypes:= #[67,67] }) (B:Nat) (v:Value) (L:List (List Int)) (z:List Int) (u:Value) (hs:a.eval s=v) (hl:ListO B W v L) (hz:OwnB B W u z)
  (hx:a.eval x= .slice (some ⟨W.heap.size,0,none⟩) 1 1) (h63:L.length≤8388608) (hB:B≤W.heap.size)
  (h: ∀v' w',ListO B w' v' (L++[z])→KB B W w'→Spare (fun k=>v.ownBlock≠some k) W w'→(v'.ownBlock=v.ownBlock∨ ∀g,v'.ownBlock=some g→W.heap.size≤g)→wpList Tryz.prog ops Q rest (a.put o.dst v') w'):wpList Tryz.prog ops Q (o::rest) a (W.alloc (.cells #[u] 24)):=by
 obtain⟨ib,hib,hzb,hsb,hbb⟩:=info_parts yJ;obtain⟨vs,hown,hxs⟩:=hl;have hvl:vs.length=L.length:=by have:=hown.1;simpa using this
 refine wpList_append_own_at _ hgd s x _ ho B 24 ib (.slice none 0 0) 1 24 Tryz.underlying67 hib hzb hsb hbb rfl (by decide) v L.length vs hs (hown.alloc _) ⟨W.heap.size,0,none⟩ 1 1 [u] hx rfl (cell_one_new W u _) (by simpa using hz.one) (by unfold maxLen;omega) (by omega) (by simp;omega) fun v' w' h2 h3 _ h5=>?_
 have hsp:Spare (fun k=>v.ownBlock≠some k) W w':=(Spare.of_below _ (Br.alloc Nl _)).trans (Spare.of_grown h3) (fun _ _ h=>h);have hkb:KB B W w':=⟨hsp.os,hsp.tape,hsp.output,hsp.size,fun k hk=>hsp.block k (by omega) (fun e2=>by
   rcases hown.2 with⟨rfl, -⟩|⟨g,cap,cur,rfl,h4, -⟩
   ·cases e2
   ·simp only[Value.ownBlock,Option.some.injEq]at e2;omega),fun k c hc=>by
   rw[hsp.block k (Ai hc).1 (fun e2=>?_)]
   ·exact hc
   ·rcases hown.2 with⟨rfl, -⟩|⟨g,cap,cur,rfl, -,h5, -⟩
    ·cases e2
    ·simp only[Value.ownBlock,Option.some.injEq]at e2;subst e2;rw[h5]at hc;simp only[Option.some.injEq,Obj.cells.injEq]at hc;exact absurd hc.2.1 (by decide)⟩
 refine h v' w' (ListO.snoc (w:=W) (vs:=vs) hxs hvl hz h2 hkb) hkb hsp ?_;rcases h5 with h5|h5
 ·exact .inl h5
 ·exact .inr fun g hg=>by rw[h5]at hg;simp only[World.alloc,Array.size_push,Option.some.injEq]at hg;omega
theorem qgJ {t:TreeV}{kz z1 z2 zs:List Int}{w0:World}{fk bl:Nat}{I:List (List CallS)→List CallS→(Nat→Prop)→World→Prop}(hS:Seer t kz z1 z2 w0 fk bl I)(hT:TreeOk t kz z1 z2 w0)(hn:zs.length≤4194304)(v:Value)(w:World)(F0:Nat→Prop)
  (hw:Below w0.heap.size w0 w) (hI:I [] [] F0 w) (hv:ListO w0.heap.size w v (QH t.ln zs)) (hvF: ∀g,v.ownBlock=some g→ ¬F0 g) (hcf: ∀(args:Array Value) (W:World),(callFunc fk args).run Tryz.prog W= .ok (.enter fk args) W):
  Calls Tryz.prog 115 #[t.val,v,.func (.func fk) #[] #[.pointer (some ⟨bl,0,none⟩)]] w fun e w'=>e= .returned (.tuple #[])∧(∃R F',t.topAt kz z1 z2 (t.leafZ kz z1 z2 zs) R∧I (t.allC kz z1 z2 zs R) (t.callsR kz z1 z2 zs R) F' w'∧ ∀k,F' k→F0 k∨w.heap.size≤k)∧Below w0.heap.size w w'∧Tend F0 w w':=by
 obtain⟨b0,hb0⟩:=Ex w.heap.size;have hw0:w0.heap.size≤b0:=by have:=hw.size;omega
 have HS:=hid hS;have HT:=hid hT;have HW:=hid hw;have HI:=hid hI;have HV:=hid hv;have HVF:=hid hvF;have HF0:=hid (fun k hk=>hS.lt hI k hk);have HDF:=hid (fun r=>zO hT.v hT.l kz z1 z2 zs r);have hLF:=Qb hT.v hT.l kz z1 z2 zs;have HLF:=hid (Qa hT.v kz z1 z2 hLF.1 hLF.2.2);have HLEN:=hid hLF.2.1;have hp:2≤t.p∧t.p≤255:=⟨(qk hT.v).2.2.2.2.2.2.1,(qk hT.v).2.2.2.2.2.2.2.1⟩;obtain⟨va,vc,rfl,hvc1,hvc2, -⟩:=hv.hold;have hbA:Below b0 w (w.alloc (.cells #[.int .i64 t.k,.int .i64 t.d,.int .i64 t.f,.int .i64 t.p,.int .u32 t.l,.int .i64 t.i,.slice t.ka t.kl t.kc,.slice t.sa t.sl t.sc,.slice t.pa t.pl t.pc] 26)):=by rw[←hb0];exact Br.alloc Nl _
 have hrA:=Wn w (.cells #[.int .i64 t.k,.int .i64 t.d,.int .i64 t.f,.int .i64 t.p,.int .u32 t.l,.int .i64 t.i,.slice t.ka t.kl t.kc,.slice t.sa t.sl t.sc,.slice t.pa t.pl t.pc] 26);rw[hb0]at hrA;clear hS hT hw hI hv hvF hLF;unfold TreeV.val;go_enter Tryz.func115,Tryz.ntmps115
 go_upto_region 1 with(fail)
 generalize w.alloc (.cells #[.int .i64 t.k,.int .i64 t.d,.int .i64 t.f,.int .i64 t.p,.int .u32 t.l,.int .i64 t.i,.slice t.ka t.kl t.kc,.slice t.sa t.sl t.sc,.slice t.pa t.pl t.pc] 26)=wA at*;have HRA:=hid hrA;have HBA:=hid hbA;have hsA:b0<wA.heap.size:=(Ai hrA).1;clear hrA hbA;go_wp2_with fail
 go_loopw [1,6,7] (fun d rt i wr=> ∃(r:Nat) (F:Nat→Prop),i= .int .i64 (r:Nat)∧(r:Int)≤t.p - 1∧rt= .bool (t.rtR kz z1 z2 zs r)∧ListO w0.heap.size wr d (t.dataR kz z1 z2 zs r)∧(∀g,d.ownBlock=some g→ ¬F g)∧I (t.allC kz z1 z2 zs r) [] F wr∧(∀k,F k→F0 k∨b0<k)∧
   (∀q',1≤q'→q'<r→t.rootZ q' (t.lvlZ kz z1 z2 (t.leafZ kz z1 z2 zs) (q' - 1)).length=false)∧Below w0.heap.size w wr∧Tend F0 w wr∧wr.heap[b0]? =some (.cells #[.int .i64 t.k,.int .i64 t.d,.int .i64 t.f,.int .i64 t.p,.int .u32 t.l,.int .i64 t.i,.slice t.ka t.kl t.kc,.slice t.sa t.sl t.sc,.slice t.pa t.pl t.pc] 26 (0,0))) (fun _ _ i _=>256 - (intOf i).toNat)
 case atStart=>
  have hk0:KB 0 w wA:=KB.of_below (hb0▸HBA.out) (Nat.zero_le _);exact⟨0,F0,rfl,by omega,rfl,HV.out.below (hb0▸HBA.out),HVF.out,HS.out.keep HI.out (HBA.out.mono hw0) (fun k hk=>HBA.out.block k (by have:=(HF0.out k hk).2;omega)) hk0.bytes,fun k hk=> .inl hk,fun q' h1 h2=>by omega,HBA.out.mono hw0,⟨Spare.of_below _ (hb0▸HBA.out),hk0.bytes⟩,HRA.out⟩
 case round=>
  obtain⟨r,F,rfl,hrp,rfl,hd,hdF,hIr,hFF,hno,hb,ht,hrr⟩:=hrel;rename World=>wq
  have hwq:Below w0.heap.size w0 wq:=HW.out.trans hb;obtain⟨d1,d2,d3⟩:=HDF.out r;have hLR:=t.lvl_is kz z1 z2 zs r;have hCR:t.callsR kz z1 z2 zs r=t.rowC kz z1 z2 r (t.rtR kz z1 z2 zs r) (t.dataR kz z1 z2 zs r) (t.dataR kz z1 z2 zs r).length:=rfl;have hRT: ∀b,t.rtR kz z1 z2 zs r=b→(b=true→1≤r∧t.rootZ r (t.lvlZ kz z1 z2 (t.leafZ kz z1 z2 zs) (r - 1)).length=true)∧(b=false→1≤r→t.rootZ r (t.lvlZ kz z1 z2 (t.leafZ kz z1 z2 zs) (r - 1)).length=false):=by
   intro b hb;subst hb
   cases r with
   | zero=>exact⟨(fun h=>by cases h),(fun _ h=>by omega)⟩
   | succ r=>exact⟨fun h=>⟨by omega,h⟩,fun h _=>h⟩
  have HRT:=hid hRT;have HLR:=hid hLR;have HCR:=hid hCR;have HUP:=hid (show ∀q,q=r+1→t.dataR kz z1 z2 zs q=t.upZ q (t.lvlZ kz z1 z2 (t.leafZ kz z1 z2 zs) r)∧t.rtR kz z1 z2 zs q=t.rootZ q (t.lvlZ kz z1 z2 (t.leafZ kz z1 z2 zs) r).length from fun q hq=>by subst hq;exact⟨rfl,rfl⟩);have HLVF:=hid (HLF.out r);have HCL:=hid (show ∀l∈t.allC kz z1 z2 zs r,l.length≤8388608 from fun l hl=>by
   obtain⟨q, -,rfl⟩:=List.mem_map.1 hl;have:=(HDF.out q).2.1
   show(t.rowC _ _ _ _ _ _ _).length≤_
   rw[qO];omega)
  have HAL:=hid (t.allC_length kz z1 z2 zs r);have HAS:=hid (t.allC_succ kz z1 z2 zs r);generalize t.dataR kz z1 z2 zs r=D at*;generalize t.rtR kz z1 z2 zs r=rt at*;generalize hCRE:t.callsR kz z1 z2 zs r=CR at*;generalize hACE:t.allC kz z1 z2 zs r=AC at*;have HCRE:=hid hCRE;have HACE:=hid hACE;clear hCRE hACE;obtain⟨dg,dc,dx,rfl,hdg, -, -⟩:=hd.get (i:=0) (by omega);have hdF': ¬F dg:=hdF dg rfl;have hFb0: ¬F b0:=fun h=>by
   rcases hFF b0 h with h2|h2
   ·have:=(HF0.out b0 h2).2;omega
   ·omega
  obtain⟨bN,hbN⟩:=Ex wq.heap.size;have hbb:b0<bN:=by rw[←hbN];exact(Ai hrr).1
  have HD:=hid hd;have HIR:=hid hIr;have HFF:=hid hFF;have HNO:=hid hno;have HB:=hid hb;have HTD:=hid ht;have HRR:=hid hrr;have HWQ:=hid hwq;have HDX:=hid d3;have hDn:D.length≤4194305:=by omega
  have hDi:(D.length:Int)≤9223372036854775807:=by omega
  clear hd hdF hIr hFF hno hb ht hrr hwq hLR hCR hRT d3 d2;go_wp2_with fail
  go_loopw [8,15] (fun s i wr=> ∃(j:Nat) (F':Nat→Prop),i= .int .i64 (j:Nat)∧j≤D.length∧ListO bN wr s (t.rowZ kz z1 z2 r rt D j)∧(∀g,s.ownBlock=some g→ ¬F' g)∧I AC (t.rowC kz z1 z2 r rt D j) F' wr∧(∀k,F' k→F k∨bN≤k)∧ListO w0.heap.size wr (.slice (some ⟨dg,0,none⟩) D.length dc) D∧Below w0.heap.size w wr∧Tend F0 w wr∧wr.heap[b0]? =some (.cells #[.int .i64 t.k,.int .i64 t.d,.int .i64 t.f,.int .i64 t.p,.int .u32 t.l,.int .i64 t.i,.slice t.ka t.kl t.kc,.slice t.sa t.sl t.sc,.slice t.pa t.pl t.pc] 26 (0,0))∧bN≤wr.heap.size) (fun _ i _=>D.length - (intOf i).toNat)
  case atStart=>exact⟨0,F,rfl,Nat.zero_le _,ListO.nil _ _,(fun g h=>by cases h),HIR.out,fun k h=> .inl h,HD.out,HB.out,HTD.out,HRR.out,by omega⟩
  case round=>
   obtain⟨j,F',rfl,hj,ho,hoF,hI,hFF',hd,hb,ht,hrr,hbr⟩:=hrel;by_cases hlt:j<D.length
   case pos=>
    have hlt2:(j:Int)<D.length:=by omega
    obtain⟨g1,c1,x,e,hg1,hx,hxo⟩:=hd.get hlt;simp only[Value.slice.injEq,Option.some.injEq,Addr.mk.injEq,and_true,true_and]at e;obtain⟨rfl,rfl⟩:=e;obtain⟨xb,xd,rfl, -, -⟩:=hxo.hold.slice;have HXO:=hid hxo;have HXL:=hid (HDX.out j);obtain⟨ql,hql⟩: ∃q:Bool,decide (j+1=D.length)=q:=⟨_,rfl⟩;have hla:((j:Int)==(D.length:Int) - 1)=ql:=by
     rw[←hql,Bool.eq_iff_iff,beq_iff_eq,decide_eq_true_eq];omega
    have HQL:=hid hql;have hju:IntKind.u64.wrap (j:Int)=(j:Int):=u64_wrap_id _ (by omega) (by omega);have HO:=hid ho;have HOF:=hid hoF;have HI2:=hid hI;have HFF2:=hid hFF';have HD2:=hid hd;have HB2:=hid hb;have HT2:=hid ht;have HR2:=hid hrr;have HWR:=hid (HW.out.trans hb);have hw0r:w0.heap.size≤wr.heap.size:=HWR.out.size;have hTr:=HT.out.below HWR.out;have HTR:=hid hTr;obtain⟨a8,c8,rfl, -, -, -⟩:=ho.hold;have HSL:=hid (HS.out.lt hI);clear hxo hql ho hoF hI hFF' hd hb ht hrr hTr;go_wp2_with ((with_reducible show wpList _ _ _ (Oper.mk _ (Op.load 26 _) _ _ _ _::_) _ _);refine wpList_load_row rfl 26 _ rfl b0 rfl _ _ _ _ HR2.out Tryz.underlying26 rfl (by kernel_rfl) ?_)
    refine(qc5 t HTR.out.v HTR.out.l z1 z2 kz r j (by omega) (by omega) ql rt xb (qz D j).length xd wr HTR.out.s HTR.out.p HTR.out.k).mono ?_;rintro e w4 ⟨bv,kv,rfl,hbo,hko,hb4⟩;have hs4:=hb4.size;have hk4:=KB.of_below hb4 hbr;have HI4:=hid (HS.out.keep HI2.out (hb4.mono hw0r) (fun k hk=>hb4.block k (HSL.out k hk).2) hk4.bytes);have HX4:=hid (HXO.out.kb hk4);have HO4:=hid (HO.out.below hb4);have HD4:=hid (HD2.out.below hb4);have HR4:=hid (qd HR2.out hb4);have HW4:=hid (HWR.out.trans (hb4.mono hw0r));have HB4:=hid (HB2.out.trans (hb4.mono hw0r));have HT4:=hid (show Tend F0 w w4 from⟨HT2.out.sp.trans (Spare.of_below (fun k=> ¬F0 k) hb4) (fun _ _ h=>h),fun k c h=>hk4.bytes k c (HT2.out.bytes k c h)⟩);have HSE:=hid (HS.out.see (la:=ql) (rt:=rt) HI4.out HAL.out (by omega) (show j≤8388608 by omega) HCL.out (by rw[qO];omega) HW4.out (ownsRow_le hbo hw0r) (ownsRow_le hko hw0r) HX4.out (by have:=HXL.out;omega));have HLT4:=hid (HS.out.lt HI4.out);clear hbo hko hk4 hb4;go_wp2_with fail
    refine HSE.out.mono ?_;rintro e w5 ⟨u,F5,rfl,hu,hF5,hI5,ht5⟩;obtain⟨u1,u3,rfl, -, -⟩:=hu.hold.slice;have hs5:=ht5.sp.size;have hbl: ∀g,(Value.slice a8 (t.rowZ kz z1 z2 r rt D j).length c8).ownBlock=some g→g<wr.heap.size:=HO.out.block_lt;have hk5:KB w0.heap.size w4 w5:=⟨ht5.sp.os,ht5.sp.tape,ht5.sp.output,ht5.sp.size,fun k hk=>ht5.sp.block k (by omega) (fun h=>by have:=(HLT4.out k h).1;omega),ht5.bytes⟩;have HO5:=hid (HO4.out.tend ht5.bytes (fun g hg=>ht5.sp.block g (by have:=hbl g hg;omega) (HOF.out g hg)));have hdgF: ¬F' dg:=fun h=>by
     rcases HFF2.out dg h with h2|h2
     ·exact hdF' h2
     ·omega
    have hb0F: ¬F' b0:=fun h=>by
     rcases HFF2.out b0 h with h2|h2
     ·exact hFb0 h2
     ·omega
    have HD5:=hid (HD4.out.tend ht5.bytes (fun g hg=>by
     simp only[Value.ownBlock,Option.some.injEq]at hg;subst hg;exact ht5.sp.block dg (by omega) hdgF))
    have HR5:=hid ((ht5.sp.block b0 (by omega) hb0F).trans HR4.out);have HU5:=hid (hu.le (show bN≤w4.heap.size by omega));have HF5:=hid (show ∀k,F5 k→F k∨bN≤k from fun k hk=>by
     rcases hF5 k hk with h|h
     ·exact HFF2.out k h
     ·exact .inr (by omega))
    have HOF5:=hid (show ∀g,(Value.slice a8 (t.rowZ kz z1 z2 r rt D j).length c8).ownBlock=some g→ ¬F5 g from fun g hg h=>by
     rcases hF5 g h with h2|h2
     ·exact HOF.out g hg h2
     ·have:=hbl g hg;omega)
    have HI5:=hid hI5;have HB5:=hid (HB4.out.trans hk5.below);have HT5:=hid (show Tend F0 w w5 from⟨HT4.out.sp.trans ht5.sp (fun k hk h h2=>by
     rcases HFF2.out k h2 with h3|h3
     ·rcases HFF.out k h3 with h4|h4
      ·exact h h4
      ·omega
     ·omega),fun k c h=>ht5.bytes k c (HT4.out.bytes k c h)⟩)
    have HLT5:=hid (HS.out.lt hI5);have hNd:t.node kz z1 z2 r j ql rt (qz D j)=t.node kz z1 z2 r j (decide (j+1=D.length)) rt (qz D j):=by rw[HQL.out]
    have hCd:t.callS kz z1 z2 r j ql rt (qz D j)=t.callS kz z1 z2 r j (decide (j+1=D.length)) rt (qz D j):=by rw[HQL.out]
    have HND:=hid hNd;have HCD:=hid hCd;have hrl:=t.rowZ_length kz z1 z2 r rt D j;have HRL:=hid hrl;generalize t.node kz z1 z2 r j ql rt (qz D j)=ND at*;generalize t.callS kz z1 z2 r j ql rt (qz D j)=CD at*;rw[hrl]at HO5 HOF5⊢;clear hu hF5 hI5 ht5 hk5 hNd hCd hrl HSE HO HOF HO4 HD4 HI4 hbl hdgF hb0F;go_wp2_with (first|((with_reducible show wpList _ _ _ (Oper.mk _ (Op.buildSlice _ _ _) _ _ _ _::_) _ _);refine QJ rfl _ rfl _ _ _ rfl ?_)|(at_builtin;refine qck rfl _ _ rfl bN (.slice a8 j c8) (t.rowZ kz z1 z2 r rt D j) ND (.slice u1 ND.length u3) rfl HO5.out HU5.out rfl (by rw[HRL.out];omega) (by omega) ?_;intro v' w' hlo' hkb' hsp' hat'))
    have hs6:=hkb'.size;have hB6:Below w0.heap.size w5 w':=hkb'.below.mono (by omega);have hF6: ∀k,F5 k→w'.heap[k]? =w5.heap[k]? :=fun k hk=>hsp'.block k (HLT5.out k hk).2 (fun e=>HOF5.out k e hk)
    refine⟨⟨j+1,F5,rfl,by omega,?_,?_,?_,HF5.out,?_,HB5.out.trans hB6,⟨HT5.out.sp.trans (T:=fun k=>k<bN) ⟨hkb'.os,hkb'.tape,hkb'.output,hkb'.size,fun k _ hk=>hkb'.block k hk⟩ (fun k hk _=>by omega),fun k c h=>hkb'.bytes k c (HT5.out.bytes k c h)⟩,?_,by omega⟩,by simp[intOf];omega⟩
    ·rw[Y8,←HND.out];exact hlo'
    ·intro g hg h;rcases hat' with h2|h2
     ·rw[h2]at hg;exact HOF5.out g hg h
     ·have:=h2 g hg;have:=(HLT5.out g h).2;omega
    ·rw[Y9,←HCD.out];exact HS.out.keep HI5.out hB6 hF6 hkb'.bytes
    ·exact HD5.out.tend hkb'.bytes (fun g hg=>by
      simp only[Value.ownBlock,Option.some.injEq]at hg;subst hg;exact hkb'.block dg (by omega))
    ·exact(hkb'.block b0 (by omega)).trans HR5.out
   obtain rfl:j=D.length:=by omega
   rw[←HCR.out]at hI;rw[←HLR.out]at ho;obtain⟨a8,c8,rfl,ho2,ho3, -⟩:=id ho.hold;have HO:=hid ho;have HI2:=hid hI;have HFF2:=hid (show ∀k,F' k→F0 k∨b0<k from fun k hk=>by
    rcases hFF' k hk with h|h
    ·exact HFF.out k h
    ·exact .inr (by omega))
   have HB2:=hid hb;have HT2:=hid ht;have HLT:=hid (HS.out.lt hI);clear ho hoF hI hFF' hd hb ht
   cases rt
   case true=>
    go_wp2_with fail
    exact Bp (results_none rfl _ _ _) rfl ⟨rfl,⟨r,F',⟨((HRT.out true rfl).1 rfl).1,((HRT.out true rfl).1 rfl).2,HNO.out⟩,by rw[HACE.out,HCRE.out];exact HI2.out,fun k hk=>by
     rcases HFF2.out k hk with h|h
     ·exact .inl h
     ·exact .inr (by omega)⟩,HB2.out,HT2.out⟩
   case false=>
    obtain⟨l1,l2,l3⟩:=HLVF.out;have hfl:=YP l3;have hle:=HLEN.out;have HRZ:=hid ((HRT.out false rfl).2 rfl);have HAB:=hid (qhH t HT.out.v (r+1) (by omega) _ _ wr HO.out.hold (by omega) (by omega) l1);have hjw:IntKind.i64.wrap ((r:Int)+1)=((r+1:Nat):Int):=by rw[IntKind.wrap_i64]<;>omega
    have hr1:((r:Int)+1)≤t.p - 1:=by
     by_cases h0:r=0
     ·omega
     ·by_cases h1:(r:Int)=t.p - 1
      ·have h2:=HRZ.out (by omega);rw[J5 h1]at h2
       cases h2
      ·omega
    have hcr1:CR≠[]:=by
     rw[HCR.out];exact List.length_pos_iff.1 (by rw[qO];omega)
    have HCR1:=hid hcr1;obtain⟨HU1,HU2⟩:=HUP.out (r+1) rfl;have HU1:=hid HU1;have HU2:=hid HU2;generalize t.lvlZ kz z1 z2 (t.leafZ kz z1 z2 zs) r=LZ at*;obtain⟨M,hM⟩:=Ex LZ.length;rw[hM]at HAB HU2⊢;clear l1 l2 l3 hfl hle hcr1 ho2 ho3 hM;go_wp2_with ((with_reducible show wpList _ _ _ (Oper.mk _ (Op.load 26 _) _ _ _ _::_) _ _);refine wpList_load_row rfl 26 _ rfl b0 rfl _ _ _ _ hrr Tryz.underlying26 rfl (by kernel_rfl) ?_)
    refine HAB.out.mono ?_;rintro e w9 ⟨u,rfl,hu,hb9⟩;have hs9:=hb9.size;have hk9:=KB.of_below hb9 (Nat.zero_le _);have hw0r:w0.heap.size≤wr.heap.size:=by have:=(HW.out.trans HB2.out).size;omega
    have HB9:=hid hb9;have HR9:=hid (qd hrr hb9);have HU9:=hid hu;obtain⟨ua,uc,rfl, -, -, -⟩:=id hu.hold;have HUB:=hid (show ∀g,(Value.slice ua (t.upZ (r+1) LZ).length uc).ownBlock=some g→wr.heap.size≤g from fun g hg=>by
     obtain⟨vs,hvo, -⟩:=hu;rcases hvo.2 with⟨e, -⟩|⟨g',cap,cur,e,h1, -⟩
     ·simp only[Value.slice.injEq]at e;rw[e.1]at hg;cases hg
     ·simp only[Value.slice.injEq]at e;rw[e.1]at hg;simp only[Value.ownBlock,Option.some.injEq]at hg;omega)
    clear hu hb9;go_wp2_with fail
    refine⟨⟨r+1,F',rfl,by omega,by rw[HU2.out],by rw[HU1.out];exact HU9.out.le hw0r,fun g hg h=>by have:=HUB.out g hg;have:=(HLT.out g h).2;omega,?_,HFF2.out,fun q' h1 h2=>?_,HB2.out.trans (HB9.out.mono hw0r),⟨HT2.out.sp.trans (Spare.of_below (fun k=> ¬F0 k) HB9.out) (fun _ _ h=>h),fun k c h=>hk9.bytes k c (HT2.out.bytes k c h)⟩,HR9.out⟩,by simp[intOf];omega⟩
    ·rw[HAS.out];exact HS.out.keep (HS.out.next HCR1.out HI2.out) (HB9.out.mono hw0r) (fun k hk=>HB9.out.block k (HLT.out k hk).2) hk9.bytes
    ·by_cases hq:q'=r
     ·subst hq;exact HRZ.out h1
     ·exact HNO.out q' h1 (by omega)
end Go.Proofs.YtahenngmaoellaaGreat
