/- Lemmas. No condition. -/
import Derived.Test.YtahenngmaoellaaGreatO32
set_option linter.all false
set_option maxRecDepth 100000
set_option maxHeartbeats 0
namespace Go.Proofs.YtahenngmaoellaaGreat
open Go.ChangeShapes Go.WideShapes Go.ChangeAt Go.RowKit Go.Joins Go.Shelf Go.Maps
open Go.Lib (hid)
variable{x zs z1 z2 h b kz:List Int}{j i p n c row at_:Nat}{big ext:Bool}{v:Nat->Nat}{w':World}{a:Option Addr}
theorem qhj {zs:List Int}(D: ∀z∈zs,0<=z/\z<=255)(p:Nat): ∀n,p+n<=zs.length-> ∀j,byt (qO zs p n).toNat j=if j<n then qo zs (p+j) else 0
  | 0,_,j=>by simp[qO,byt,Zk]
  | n+1,h,j=>by
    have o:=qhj D p n (by omega) j;have S:=Qz (zs:=zs) D (at_:=p) n (by omega);obtain⟨-,z1,z2⟩:=qZ D (show p+n<zs.length by omega);obtain⟨z,q⟩: ∃z:Nat,qo zs (p+n)=z:=⟨(qo zs (p+n)).toNat,by omega⟩;obtain⟨a,G⟩: ∃a:Nat,qO zs p n=a:=⟨(qO zs p n).toNat,by omega⟩;have r:(2:Int)^(8*n)=((256^n:Nat):Int):=by
      rw[Int.pow_mul];norm_cast
    have I:a<256^n:=by
      have:=S.2;rw[G,r]at this;exact_mod_cast this
    have e:(qO zs p (n+1)).toNat=a+z*256^n:=by
      rw[qO,G,q,r,<-Int.natCast_mul,<-Int.natCast_add,Int.toNat_natCast]
    rw[G,Int.toNat_natCast]at o;rw[e];unfold byt Zk at o⊢;by_cases U:j<n
    · rw[if_pos U]at o
      rw[if_pos (by omega),<-o];have O:256^n=256^j*(256*256^(n - j - 1)):=by
        rw[<-Nat.pow_succ',<-Nat.pow_add];congr 1;omega
      rw[O,show z*(256^j*(256*256^(n - j - 1)))=256^j*(256*(z*256^(n - j - 1))) by
        rw[Nat.mul_left_comm z,Nat.mul_left_comm z],Nat.add_mul_div_left _ _ (Nat.pow_pos (by omega)),Nat.add_mul_mod_self_left]
    · by_cases J:j=n
      · subst J
        rw[if_pos (by omega),Nat.add_mul_div_right _ _ (Nat.pow_pos (by omega)),Nat.div_eq_of_lt I,Nat.zero_add,q];have:z%256=z:=Nat.mod_eq_of_lt (by omega)
        rw[this]
      · rw[if_neg (by omega)]
        have:a+z*256^n<256^j:=by
          have V:256^(n+1)<=256^j:=Nat.pow_le_pow_right (by omega) (by omega);have Y:z*256^n<=255*256^n:=Nat.mul_le_mul_right _ (by omega);have X:256^(n+1)=256*256^n:=Nat.pow_succ';omega
        rw[Nat.div_eq_of_lt this];rfl
theorem qde (q:j<x.length):qo x j=if j<(Yz x).length then qo (Yz x) j else 0:=by
  have o:(Yz x).length=Qp x x.length:=by unfold Yz;have:=jl x x.length;simp;omega
  rw[o];by_cases h:j<Qp x x.length
  · rw[if_pos h];unfold Yz qo;simp[Lg,List.getElem?_take,h]
  · rw[if_neg h];exact qbL x _ _ (by omega) q
theorem QB (big q:Bool)(v:Nat->Nat){k:Nat}(I:k+1<=9)(i:Nat):
    qo (QD big q v (k+1)) i=if ¬(k+1=7/\q=true)/\atB big (k+1)<=i/\i<atB big (k+1)+szB big (k+1) then byt (v (k+1)) (i - atB big (k+1)) else qo (QD big q v k) i:=by
  have r:=yh big false (k+1) (by omega) (by omega);have e:szE big false (k+1)=szB big (k+1):=by simp[szE]
  rw[e]at r;have G:32<=mB big:=by cases big<;>decide
  rw[QD];by_cases h:k+1=7/\q=true
  · rw[if_pos h,if_neg (fun o=>o.1 h)]
  · rw[if_neg h,Y1 (by rw[qH,Q0 big q v k (by omega)];omega),qH]
    by_cases o:atB big (k+1)<=i/\i<atB big (k+1)+szB big (k+1)
    · rw[if_pos o,if_pos ⟨h,o⟩]
      simp[qo,qD,Lg,show i - atB big (k+1)<szB big (k+1) by omega]
    · rw[if_neg o,if_neg (fun D=>o D.2)]
theorem Jh (big o:Bool)(v:Nat->Nat)(i:Nat):qo (QD big o v 0) i=0:=by
  unfold QD qo;simp only[Lg,List.getElem?_replicate];split<;>rfl
theorem qja (I: ∀z∈zs,0<=z/\z<=255)(J:zs.length=mB big)(V:big=true-> ∀i,18<=i->i<32->qo zs i=0)(Y:ext=true->xoZ big ext zs≠0)(hi:i<2*sB big):
    qo (QD big (YW big ext zs 7==0) (YW big ext zs) 9) i=qo zs i:=by
  have X: ∀f,1<=f->f<=9-> ¬(f=7/\ext=false)->YW big ext zs f=(qO zs (atB big f) (szE big ext f)).toNat:=fun f D r G=>by
    have:=qag (big:=big) (ext:=ext) I J D r G;omega
  have o: ∀f j,1<=f->f<=9-> ¬(f=7/\ext=false)->byt (YW big ext zs f) j=if j<szE big ext f then qo zs (atB big f+j) else 0:=fun f j D r G=>by
    rw[X f D r G];have O:=yh big ext f D r;exact qhj I _ _ (by rw[J];cases big;(have:=O.2.2.2 rfl;show _<=32;omega);(show _<=64;omega)) j
  have U:(YW big ext zs 7==0)= !ext:=by
    cases ext
    · rfl
    · have Z:((YW big true zs 7:Nat):Int)=xoZ big true zs:=by
        rw[qag I J (by omega) (by omega) (by simp)];cases big<;>rfl
      have:=Y rfl
      rw[Bool.not_true,beq_eq_false_iff_ne];omega
  rw[U];rw[QB _ _ _ (k:=8) (by omega),QB _ _ _ (k:=7) (by omega),QB _ _ _ (k:=6) (by omega),QB _ _ _ (k:=5) (by omega),QB _ _ _ (k:=4) (by omega),QB _ _ _ (k:=3) (by omega),QB _ _ _ (k:=2) (by omega),QB _ _ _ (k:=1) (by omega),QB _ _ _ (k:=0) (by omega),Jh];rw[o 9 _ (by omega) (by omega) (by omega),o 8 _ (by omega) (by omega) (by omega),o 6 _ (by omega) (by omega) (by omega),o 5 _ (by omega) (by omega) (by omega),o 4 _ (by omega) (by omega) (by omega),o 3 _ (by omega) (by omega) (by omega),o 2 _ (by omega) (by omega) (by omega),o 1 _ (by omega) (by omega) (by omega)]
  cases big
  · have hi:i<16:=hi
    rcases(show i=0\/i=1\/i=2\/i=3\/i=4\/i=5\/i=6\/i=7\/i=8\/i=9\/i=10\/i=11\/i=12\/i=13\/i=14\/i=15 by omega)with rfl|rfl|rfl|rfl|rfl|rfl|rfl|rfl|rfl|rfl|rfl|rfl|rfl|rfl|rfl|rfl<;>cases ext<;>simp[atB,szB,szE]<;>(rw[o 7 _ (by omega) (by omega) (by simp)];simp[atB,szB,szE])
  · have hi:i<32:=hi
    by_cases S:18<=i
    · rw[V rfl i S hi]
      have q: ∀f,1<=f->f<=9-> ¬(atB true f<=i/\i<atB true f+szB true f):=fun f D r G=>by
        have O:=yh true false f D r;rw[show szE true false f=szB true f by simp[szE]]at O;omega
      rw[if_neg (fun h=>q 9 (by omega) (by omega) h.2),if_neg (fun h=>q 8 (by omega) (by omega) h.2),if_neg (fun h=>q 7 (by omega) (by omega) h.2),if_neg (fun h=>q 6 (by omega) (by omega) h.2),if_neg (fun h=>q 5 (by omega) (by omega) h.2),if_neg (fun h=>q 4 (by omega) (by omega) h.2),if_neg (fun h=>q 3 (by omega) (by omega) h.2),if_neg (fun h=>q 2 (by omega) (by omega) h.2),if_neg (fun h=>q 1 (by omega) (by omega) h.2)]
    · rcases(show i=0\/i=1\/i=2\/i=3\/i=4\/i=5\/i=6\/i=7\/i=8\/i=9\/i=10\/i=11\/i=12\/i=13\/i=14\/i=15\/i=16\/i=17 by omega)with rfl|rfl|rfl|rfl|rfl|rfl|rfl|rfl|rfl|rfl|rfl|rfl|rfl|rfl|rfl|rfl|rfl|rfl<;>cases ext<;>simp[atB,szB,szE]<;>(rw[o 7 _ (by omega) (by omega) (by simp)];simp[atB,szB,szE])
theorem qjl (hz: ∀z∈zs,0<=z/\z<=255)(h:okD big ext zs):QV big (YW big ext zs) (zf big zs) (zA big zs)=zs:=by
  obtain⟨X,Z,hx, -⟩:=h;have hM:mB big=4*sB big:=by cases big<;>rfl
  have D: ∀x:List Int,(Yz x).length<=x.length:=fun x=>by unfold Yz;rw[List.length_take];omega
  have e1:((zs.drop (2*sB big)).take (sB big)).length=sB big:=by simp;omega
  have e2:((zs.drop (3*sB big)).take (sB big)).length=sB big:=by simp;omega
  have l1:(zf big zs).length<=sB big:=Nat.le_trans (D _) (by omega);have l2:(zA big zs).length<=sB big:=Nat.le_trans (D _) (by omega);have hF:=Q0 big (YW big ext zs 7==0) (YW big ext zs) 9 (by omega);have J:=yC (big:=big) (v:=YW big ext zs) l1 l2;have G: ∀i,2*sB big<=i->qo (QD big (YW big ext zs 7==0) (YW big ext zs) 9) i=0:=fun i hi=>by
    have I:16<=2*sB big/\(big=true->18<=2*sB big):=by cases big<;>decide
    have q: ∀f,1<=f->f<=9-> ¬(atB big f<=i/\i<atB big f+szB big f):=fun f O r V=>by
      have Y:=yh big false f O r;rw[show szE big false f=szB big f by simp[szE]]at Y
      cases big
      · have:=Y.2.2.2 rfl;omega
      · have:=I.2 rfl;omega
    rw[QB _ _ _ (k:=8) (by omega),QB _ _ _ (k:=7) (by omega),QB _ _ _ (k:=6) (by omega),QB _ _ _ (k:=5) (by omega),QB _ _ _ (k:=4) (by omega),QB _ _ _ (k:=3) (by omega),QB _ _ _ (k:=2) (by omega),QB _ _ _ (k:=1) (by omega),QB _ _ _ (k:=0) (by omega),Jh];rw[if_neg (fun h=>q 9 (by omega) (by omega) h.2),if_neg (fun h=>q 8 (by omega) (by omega) h.2),if_neg (fun h=>q 7 (by omega) (by omega) h.2),if_neg (fun h=>q 6 (by omega) (by omega) h.2),if_neg (fun h=>q 5 (by omega) (by omega) h.2),if_neg (fun h=>q 4 (by omega) (by omega) h.2),if_neg (fun h=>q 3 (by omega) (by omega) h.2),if_neg (fun h=>q 2 (by omega) (by omega) h.2),if_neg (fun h=>q 1 (by omega) (by omega) h.2)]
  have key: ∀i,i<mB big->qo (QV big (YW big ext zs) (zf big zs) (zA big zs)) i=qo zs i:=fun i hi=>by
    have aa:(Qn (QD big (YW big ext zs 7==0) (YW big ext zs) 9) (2*sB big) (zf big zs)).length=mB big:=by rw[Qq (by omega),hF]
    unfold QV;rw[Y1 (by omega),Y1 (by omega)];by_cases V:3*sB big<=i
    · have S:i - 3*sB big<((zs.drop (3*sB big)).take (sB big)).length:=by omega
      have o:=qde S;rw[qb9 (by omega),show 3*sB big+(i - 3*sB big)=i by omega]at o;by_cases U:i<3*sB big+(zA big zs).length
      · rw[if_pos ⟨V,U⟩];rw[if_pos (by show _<(zA big zs).length;omega)]at o;exact o.symm
      · rw[if_neg (by omega),if_neg (by omega),G i (by omega)];rw[if_neg (by show ¬_<(zA big zs).length;omega)]at o;exact o.symm
    · rw[if_neg (by omega)]
      by_cases r:2*sB big<=i
      · have S:i - 2*sB big<((zs.drop (2*sB big)).take (sB big)).length:=by omega
        have o:=qde S;rw[qb9 (by omega),show 2*sB big+(i - 2*sB big)=i by omega]at o;by_cases U:i<2*sB big+(zf big zs).length
        · rw[if_pos ⟨r,U⟩];rw[if_pos (by show _<(zf big zs).length;omega)]at o;exact o.symm
        · rw[if_neg (by omega),G i (by omega)];rw[if_neg (by show ¬_<(zf big zs).length;omega)]at o;exact o.symm
      · rw[if_neg (by omega)];exact qja hz X Z hx (by omega)
  apply List.ext_getElem (by rw[J,X])
  intro i O r;have:=key i (by omega)
  simpa [qo,Lg,O,r] using this
theorem qaj (q:z1.length<=sB big)(r:z2.length<=sB big)(hi:i<2*sB big):qo (QV big v z1 z2) i=qo (QD big (v 7==0) v 9) i:=by
 have e:=Q0 big (v 7==0) v 9 (by omega);have o:4*sB big=mB big:=by cases big<;>decide
 unfold QV;rw[Y1 (by rw[Qq (by omega)];omega),if_neg (by omega),Y1 (by omega),if_neg (by omega)]
theorem qS {o:Bool}(k:Nat)(q:k+1<=9)(h: ¬(atB big (k+1)<=i/\i<atB big (k+1)+szB big (k+1))):qo (QD big o v (k+1)) i=qo (QD big o v k) i:=by
 rw[QB big o v q i,if_neg (fun r=>h r.2)]
theorem qae {q:Bool}(k:Nat)(o:k+1<=9)(r:k+1≠7)(h:atB big (k+1)=i):qo (QD big q v (k+1)) i=byt (v (k+1)) 0:=by
 have G:1<=szB big (k+1):=by
  have:=yh big false (k+1) (by omega) o
  simpa [szE] using this.1
 rw[QB big q v o i,if_pos ⟨fun D=>r D.1,by omega,by omega⟩,<-h,Nat.sub_self]
theorem Jk {x:Nat}(h:x<=255):byt x 0=(x:Int):=by
 have:=Zz x 0
 simp at this
 omega
theorem qg9 (I:ParOk big v)(r:z1.length<=sB big)(q:z2.length<=sB big):okD big false (QV big v z1 z2)/\qo (QV big v z1 z2) 1=(v 2:Nat):=by
 have hs:8<=sB big:=by cases big<;>decide
 have hm:mB big<=64:=by cases big<;>decide
 obtain⟨J,U,p3,V, -,p6,S⟩:=I.p;have g0:qo (QV big v z1 z2) 0=(v 1:Nat):=by
  rw[qaj r q (by omega),qS 8 (by omega) (by cases big<;>decide),qS 7 (by omega) (by cases big<;>decide),qS 6 (by omega) (by cases big<;>decide),qS 5 (by omega) (by cases big<;>decide),qS 4 (by omega) (by cases big<;>decide),
   qS 3 (by omega) (by cases big<;>decide),qS 2 (by omega) (by cases big<;>decide),qS 1 (by omega) (by cases big<;>decide),qae 0 (by omega) (by omega) (by cases big<;>rfl)]
  exact Jk (x:=v 1) (by omega)
 have D:qo (QV big v z1 z2) 1=(v 2:Nat):=by
  rw[qaj r q (by omega),qS 8 (by omega) (by cases big<;>decide),qS 7 (by omega) (by cases big<;>decide),qS 6 (by omega) (by cases big<;>decide),qS 5 (by omega) (by cases big<;>decide),qS 4 (by omega) (by cases big<;>decide),
   qS 3 (by omega) (by cases big<;>decide),qS 2 (by omega) (by cases big<;>decide),qae 1 (by omega) (by omega) (by cases big<;>rfl)]
  exact Jk (x:=v 2) (by omega)
 have Y:qo (QV big v z1 z2) 3=(v 4:Nat):=by
  rw[qaj r q (by omega),qS 8 (by omega) (by cases big<;>decide),qS 7 (by omega) (by cases big<;>decide),qS 6 (by omega) (by cases big<;>decide),qS 5 (by omega) (by cases big<;>decide),qS 4 (by omega) (by cases big<;>decide),
   qae 3 (by omega) (by omega) (by cases big<;>rfl)]
  exact Jk (x:=v 4) (by omega)
 have O:atB big 9<2*sB big:=by cases big<;>decide
 have X:qo (QV big v z1 z2) (atB big 9)=(v 9:Nat):=by
  rw[qaj r q O,qae 8 (by omega) (by omega) rfl];exact Jk (x:=v 9) (by omega)
 refine⟨⟨yC r q,fun Z i i1 i2=>?_,fun h=>(by cases h),?_⟩,D⟩
 ·subst Z;have G:i<2*sB true:=i2;have o: ∀k,k<9-> ¬(atB true (k+1)<=i/\i<atB true (k+1)+szB true (k+1)):=fun k hk h=>by
   have:atB true (k+1)+szB true (k+1)<=18:=by
    rcases(show k=0\/k=1\/k=2\/k=3\/k=4\/k=5\/k=6\/k=7\/k=8 by omega)with rfl|rfl|rfl|rfl|rfl|rfl|rfl|rfl|rfl<;>decide
   omega
  rw[qaj r q G,qS 8 (by omega) (o 8 (by omega)),qS 7 (by omega) (o 7 (by omega)),qS 6 (by omega) (o 6 (by omega)),qS 5 (by omega) (o 5 (by omega)),qS 4 (by omega) (o 4 (by omega)),qS 3 (by omega) (o 3 (by omega)),
   qS 2 (by omega) (o 2 (by omega)),qS 1 (by omega) (o 1 (by omega)),qS 0 (by omega) (o 0 (by omega)),Jh]
 ·rw[g0,D,Y,X];exact⟨J,U,fun _=>V.1,S⟩
attribute [local go_sem] Oper.semAt_some
theorem qhP (h:i<n):qo ((zs.drop p).take n) i=qo zs (p+i):=by
 unfold qo;simp[Lg,List.getElem?_take,h,List.getElem?_drop]
theorem qaK {w:World}(h:Hold w (.slice a n c) zs)(r:Below w.heap.size w w')(o:j<zs.length): ∃b off,a=some ⟨b,off,none⟩/\b<w'.heap.size/\w'.cell? ⟨b,off+j,none⟩=some (.int .u8 (qo zs j))/\0<=qo zs j/\qo zs j<=255:=by
 have q:zs≠[]:=fun e=>by rw[e]at o;simp at o
 rcases h.2 with⟨I, -⟩|⟨S,O,e, -, -,G⟩
 ·exact absurd I q
 ·obtain⟨b,off,rfl,D,J⟩:=G.resolve_left q;simp only[Value.slice.injEq]at e;exact⟨b,off,e.1,Nat.lt_of_lt_of_le D r.size,(r.cell (p:=⟨b,off+j,none⟩) D).trans (J j o),(qZ h.1 o).2⟩
theorem jZ (lo n:Nat)(h:lo+n<9223372036854775808)(w:World):
  Calls Tryz.prog 183 #[.int .u64 lo,.int .u64 0,.int .u64 n] w fun e w'=>e= .returned (.tuple #[.int .u64 ((lo+n:Nat):Int),.int .u64 0,.bool false])/\w'=w:=by
 have o:IntKind.u64.wrap ((lo:Int)+n)=(lo:Int)+n:=u64_wrap_id _ (by omega) (by omega);have r: ¬((lo:Int)+n<lo):=by omega
 have q:(lo:Int)<=(lo:Int)+n:=by omega
 rw[Int.natCast_add];clear h;go_enter Tryz.func183,Tryz.ntmps183
 go_wp2
 exact Bp (results_tmp3 (fn:=Tryz.f183) (t:=6) (u:=7) (v:=8) rfl _ _ _) rfl ⟨rfl,rfl⟩
theorem J3 (r:j<n)(o:x.length<=n):(QI n x).take (j+1)=(QI n x).take j++[if j<x.length then qo x j else 0]:=by
 have q:=QP o;rw[jS (zs:=QI n x) (by omega)];congr 2
 unfold QI qo;simp only[Lg];by_cases h:j<x.length
 ·rw[if_pos h,List.getElem?_append_left h]
 ·rw[if_neg h,List.getElem?_append_right (by omega),List.getElem?_replicate,if_pos (by omega)];rfl
theorem jY (zs:List Int)(v:Value)(p n:Nat)(w:World)(h:Hold w v zs)(hn:n<=65535)(hp:p<=zs.length)(hm:(zs.length:Int)<=281474976710656):
  Calls Tryz.prog 186 #[v,.int .i64 p,.int .i64 n] w fun e w'=> ∃v',e= .returned v'/\w'.ownsRow w.heap.size 5 1 v' n ((QI n ((zs.drop p).take n)).map qp)/\Below w.heap.size w w':=by
 obtain⟨i0,hi,ac,ab,ae⟩:=info_parts Qu;obtain⟨a,ap,rfl,ao,aq⟩:=h.slice;have HH:=hid h;obtain⟨X,V⟩:=Ex ((zs.drop p).take n);have af:X.length=min n (zs.length - p):=by rw[<-V];simp
 have aa: ∀j,j<X.length->qo X j=qo zs (p+j):=fun j hj=>by rw[<-V];exact qhP (by omega)
 have Z:=QP (n:=n) (zs:=X) (by omega);rw[V];have O:=hid af;have aj:=hid aa;have ai:=hid Z;clear h V af aa Z;go_enter Tryz.func186,Tryz.ntmps186
 go_wp2_with fail
 go_loopw [7,8] (fun b i wr=> ∃j:Nat,i= .int .i64 j/\j<=n/\wr.ownsRow w.heap.size 5 1 b j (((QI n X).take j).map qp)/\Below w.heap.size w wr) (fun _ i _=>n - (intOf i).toNat)
 case atStart=>exact⟨0,rfl,Nat.zero_le _,by simpa using Wo w w.heap.size 5 1,Below.refl _ _⟩
 case round=>
  obtain⟨j,rfl,hj,q,U⟩:=hrel;have o:=hid U;have J:=hid q;obtain⟨a1,n1,c1,rfl⟩:=qr q;by_cases al:j<n
  case neg=>
   obtain rfl:j=n:=by omega
   clear q U;go_wp2
   go_ret
   refine⟨_,rfl,?_,o.out⟩;have:=J.out
   rwa[List.take_of_length_le (by rw[ai.out];exact Nat.le_refl _)]at this
  have Y:=J3 (x:=X) al (by have:=O.out;omega);have I:=hid Y;clear Y q;by_cases ah:p+j<zs.length
  case pos=>
   have ad:j<X.length:=by have:=O.out;omega
   have G:=I.out;rw[if_pos ad,aj.out j ad]at G;have HZ:=hid G;obtain⟨bb,ar,rfl,q1,q2,q3,q4⟩:=qaK HH.out U ah;have ak:(p:Int)+j<zs.length:=by omega
   have ag:0<=(p:Int)+j/\(p:Int)+j<9223372036854775808:=by omega
   obtain⟨am,an⟩:=ag;generalize qo zs (p+j)=z at*;clear U G I;go_wp2_with (at_builtin;refine wpList_append_own _ rfl _ _ 24 rfl w.heap.size 5 i0 (.int .u8 0) 1 1 Tryz.underlying24 hi ac ab ae rfl (by decide) _ _ _ rfl (J.out.alloc _) ⟨wr.heap.size,0,none⟩ 1 1 [.int .u8 z] rfl rfl (cell_one_new _ _ _) (by simp[Value.oneCell']) (by unfold maxLen;omega) (by omega) (by simp;have:=o.out.size;omega) ?_;intro v' w6 D r _;have S:Below w.heap.size w w6:=(o.out.alloc o.out.size _).grown r (by simp;have:=o.out.size;omega) (fun k e=>(J.out.lt k e).1))
   refine⟨⟨j+1,rfl,by omega,by rw[HZ.out,List.map_append];exact D,S⟩,by simp[intOf];omega⟩
  have G:=I.out;rw[if_neg (by have:=O.out;omega)]at G;have HZ:=hid G;have ak: ¬((p:Int)+j<zs.length):=by omega
  clear U G I;go_wp2_with (at_builtin;refine wpList_append_own _ rfl _ _ 24 rfl w.heap.size 5 i0 (.int .u8 0) 1 1 Tryz.underlying24 hi ac ab ae rfl (by decide) _ _ _ rfl (J.out.alloc _) ⟨wr.heap.size,0,none⟩ 1 1 [.int .u8 0] rfl rfl (cell_one_new _ _ _) (by simp[Value.oneCell']) (by unfold maxLen;omega) (by omega) (by simp;have:=o.out.size;omega) ?_;intro v' w6 D r _;have S:Below w.heap.size w w6:=(o.out.alloc o.out.size _).grown r (by simp;have:=o.out.size;omega) (fun k e=>(J.out.lt k e).1))
  refine⟨⟨j+1,rfl,by omega,by rw[HZ.out,List.map_append];exact D,S⟩,by simp[intOf];omega⟩
theorem qeQ (big:Bool)(zs:List Int)(v:Value)(w:World)(h:Hold w v zs)(hk:zs.length<=mB big):
  Calls Tryz.prog 181 #[.int .i64 (kB big),v] w fun e w'=> ∃v',e= .returned v'/\w'.ownsRow w.heap.size 5 1 v' (yH (bB big) zs).length ((yH (bB big) zs).map qp)/\Below w.heap.size w w':=by
 obtain⟨i0,hi,ac,ab,ad⟩:=info_parts Qu;obtain⟨a,ak,rfl,aj,am⟩:=h.slice;have S:mB big<=bB big/\bB big<=128:=by cases big<;>decide
 obtain⟨n,hn⟩:=Ex (bB big);have O:=hid (fun(W:World)=>zz big W);rw[hn]at O S⊢;have HH:=hid h;have ah:=hid S;by_cases h0:zs.length=0
 case pos=>
  have e:yH n zs=[]:=by unfold yH;rw[if_pos h0]
  rw[e];obtain rfl:zs=[]:=List.eq_nil_of_length_eq_zero h0;clear S h hn hk;go_enter Tryz.func181,Tryz.ntmps181
  go_wp2
  go_ret
  exact⟨_,rfl,Wo _ _ _ _,Below.refl _ _⟩
 have e:yH n zs=QI n zs:=by unfold yH;rw[if_neg h0]
 have Y:=QP (n:=n) (zs:=zs) (by omega);rw[e,Y];have ae:=hid Y;have ai:0<zs.length:=by omega
 have aq:((zs.length:Int)==0)=false:=beq_eq_false_iff_ne.2 (by omega);have ap:(zs.length:Int)<=128:=by omega
 have an:(n:Int)<=128:=by omega
 have HK:=hid hk;clear h Y e h0 S hn hk;go_enter Tryz.func181,Tryz.ntmps181
 go_wp2_with fail
 go_loopw [5,6] (fun b i wr=> ∃j:Nat,i= .int .i64 j/\j<=n/\wr.ownsRow w.heap.size 5 1 b j (((QI n zs).take j).map qp)/\Below w.heap.size w wr) (fun _ i _=>n - (intOf i).toNat)
 case atStart=>exact⟨0,rfl,Nat.zero_le _,by simpa using Wo w w.heap.size 5 1,Below.refl _ _⟩
 case round=>
  obtain⟨j,rfl,hj,q,Z⟩:=hrel;have o:=hid Z;have U:=hid q;obtain⟨a1,n1,c1,rfl⟩:=qr q;by_cases ag:j<n
  case neg=>
   obtain rfl:j=n:=by omega
   clear q Z;go_wp2_with fail
   refine(O.out _).mono ?_;rintro e w4 ⟨rfl,G⟩;rw[G];clear G;go_wp2
   go_ret
   refine⟨_,rfl,?_,o.out⟩;have:=U.out
   rwa[List.take_of_length_le (by rw[ae.out];exact Nat.le_refl _)]at this
  have aa:=J3 (x:=zs) ag (by have:=ah.out;have:=HK.out;omega);have J:=hid aa;have al:(j:Int)<n:=by omega
  clear aa q;by_cases V:j<zs.length
  case pos=>
   have I:=J.out;rw[if_pos V]at I;have HZ:=hid I;obtain⟨bb,ao,rfl,q1,q2,q3,q4⟩:=qaK HH.out Z V;have af:(j:Int)<zs.length:=by omega
   generalize qo zs j=z at*;clear Z I J;go_wp2_with fail
   refine(O.out _).mono ?_;rintro e w4 ⟨rfl,G⟩;rw[G];clear G;go_wp2_with (at_builtin;refine wpList_append_own _ rfl _ _ 24 rfl w.heap.size 5 i0 (.int .u8 0) 1 1 Tryz.underlying24 hi ac ab ad rfl (by decide) _ _ _ rfl (U.out.alloc _) ⟨wr.heap.size,0,none⟩ 1 1 [.int .u8 z] rfl rfl (cell_one_new _ _ _) (by simp[Value.oneCell']) (by unfold maxLen;omega) (by omega) (by simp;have:=o.out.size;omega) ?_;intro v' w6 D r _;have X:Below w.heap.size w w6:=(o.out.alloc o.out.size _).grown r (by simp;have:=o.out.size;omega) (fun k e=>(U.out.lt k e).1))
   refine⟨⟨j+1,rfl,by omega,by rw[HZ.out,List.map_append];exact D,X⟩,by simp[intOf];omega⟩
  have I:=J.out;rw[if_neg V]at I;have HZ:=hid I;have af: ¬((j:Int)<zs.length):=by omega
  clear Z I J;go_wp2_with fail
  refine(O.out _).mono ?_;rintro e w4 ⟨rfl,G⟩;rw[G];clear G;go_wp2_with (at_builtin;refine wpList_append_own _ rfl _ _ 24 rfl w.heap.size 5 i0 (.int .u8 0) 1 1 Tryz.underlying24 hi ac ab ad rfl (by decide) _ _ _ rfl (U.out.alloc _) ⟨wr.heap.size,0,none⟩ 1 1 [.int .u8 0] rfl rfl (cell_one_new _ _ _) (by simp[Value.oneCell']) (by unfold maxLen;omega) (by omega) (by simp;have:=o.out.size;omega) ?_;intro v' w6 D r _;have X:Below w.heap.size w w6:=(o.out.alloc o.out.size _).grown r (by simp;have:=o.out.size;omega) (fun k e=>(U.out.lt k e).1))
  refine⟨⟨j+1,rfl,by omega,by rw[HZ.out,List.map_append];exact D,X⟩,by simp[intOf];omega⟩
def qN (h:List Int):List Int:=h++List.replicate 8 0
theorem Qh {N:Nat}(r:N<=64)(q:Words N 8 h):Words 64 16 (qN h):=by
 refine⟨by simp[qN,q.1],fun z o=>?_⟩;rcases List.mem_append.1 o with o|o
 ·have:=q.2 z o
  have D:(2:Int)^N<=2^64:=by exact_mod_cast Nat.pow_le_pow_right (by omega) r
  omega
 ·rw[List.eq_of_mem_replicate o];decide
theorem qbz (q:h.length=8)(o:j<8):wd (qN h) j=wd h j:=by
 unfold wd qN;simp[Lg,List.getElem?_append_left (show j<h.length by omega)]
def QA (h b:List Int)(j:Nat):List Int:=h.take j++b.drop j
theorem zZ (o:j<h.length)(G:j<b.length):(QA h b j).set j (wd h j)=QA h b (j+1):=by
 have q:h.take (j+1)=h.take j++[wd h j]:=by
  rw[List.take_succ_eq_append_getElem o];simp[wd,Lg,o]
 have D:b.drop j=b[j]::b.drop (j+1):=List.drop_eq_getElem_cons G;have r:(h.take j).length=j:=by simp;omega
 unfold QA;rw[q,D,List.set_append_right _ _ (by omega),r,Nat.sub_self,List.set_cons_zero];simp
theorem Yx (o:j<=h.length)(q:j<=b.length):(QA h b j).length=b.length:=by simp[QA];omega
theorem YJ {k:IntKind}{L:List Int}(o:j<L.length):(qj k L)[j]? =some (.int k (wd L j)):=by
 simp[qj,wd,Lg,o]
theorem Holds8.mono_below' {w:World}{v:Value}{B:Nat}(h:Holds8 w v zs)(q:Below B w w')(o:w.heap.size<=B):Holds8 w' v zs:=qU h (q.mono o)
def Z8:List Int:=List.replicate 8 0
theorem qad {R:List Int}(o:R.length=8)(q:h.length=8):QA R (qN h) 8=qN R:=by
 unfold QA qN;rw[List.take_of_length_le (by omega),List.drop_append_of_le_length (by omega),List.drop_of_length_le (by omega),List.nil_append]
theorem qb1 (h bs:List Int)(hh:Words 64 8 h)(v:Value)(lo:Nat)(ap:(lo:Int)<9223372036854775808)(O node:Bool)(w:World)(hH:Holds8 w v bs)(hz: ∀z∈bs,0<=z/\z<=255)(hl:bs.length=128):
  Calls Tryz.prog 185 #[.int .i64 1,.agg (qj .u64 (qN h)),v,.int .u64 lo,.int .u64 0,.bool O,.bool node] w fun e w'=>e= .returned (.agg (qj .u64 (qN (yR true h bs (lo:Nat) O node))))/\Below w.heap.size w w':=by
 obtain⟨o,D⟩:=Ex w.heap.size;have ah:=yu 8 16 hz (by rw[hl]);obtain⟨M,hM⟩:=Ex (Q7 8 16 bs);obtain⟨R,hR⟩:=Ex (yR true h bs (lo:Nat) O node);have ao:Words 64 8 R:=by rw[<-hR];exact Q1 true hh _ _ _ _
 have av:Zy mixBig IVb 12 h M (lo:Nat) 0 O node=R:=by rw[<-hR,<-hM];rfl
 rw[hR];rw[hM]at ah;have ac:=Qh (by decide) hh;have au: ∀j,j<8->wd (qN h) j=wd h j:=fun j hj=>qbz hh.1 hj
 have aN:=hid hM;have aD:=hid av;have aF:=hid hl;have aO:=hid ap;have Z:=hid ah;have r:=hid ao;have I:=hid hh;have ab:=hid ac;have aE:=hid au;have aM:=hid hz;have aC:=hid hH;clear hM hR av hl ap ah ao au ac hz hH hh;go_enter Tryz.func185,Tryz.ntmps185
 go_wp2_with fail
 have aQ:(((w.alloc (.cells (qj .u64 (qN h)) 257)).alloc (.cells Ka 257)).alloc (.cells (qj .u64 Z8) 278)).heap.size=o+3:=by simp[D]
 have r0:(((w.alloc (.cells (qj .u64 (qN h)) 257)).alloc (.cells Ka 257)).alloc (.cells (qj .u64 Z8) 278)).heap[o]? =some (.cells (qj .u64 (qN h)) 257 (0,0)):=by
  rw[Bh _ _ _ (by simp[D];omega),Bh _ _ _ (by simp[D]),<-D];exact Wn _ _
 have r1:(((w.alloc (.cells (qj .u64 (qN h)) 257)).alloc (.cells Ka 257)).alloc (.cells (qj .u64 Z8) 278)).heap[o+1]? =some (.cells Ka 257 (0,0)):=by
  rw[Bh _ _ _ (by simp[D]),show o+1=(w.alloc (.cells (qj .u64 (qN h)) 257)).heap.size by simp[D]];exact Wn _ _
 have r2:(((w.alloc (.cells (qj .u64 (qN h)) 257)).alloc (.cells Ka 257)).alloc (.cells (qj .u64 Z8) 278)).heap[o+1+1]? =some (.cells (qj .u64 (QA h Z8 0)) 278 (0,0)):=by
  rw[show o+1+1=((w.alloc (.cells (qj .u64 (qN h)) 257)).alloc (.cells Ka 257)).heap.size by simp[D]];exact Wn _ _
 have an:Below o w (((w.alloc (.cells (qj .u64 (qN h)) 257)).alloc (.cells Ka 257)).alloc (.cells (qj .u64 Z8) 278)):=by rw[<-D];exact((Br.alloc Nl _).alloc (by simp) _).alloc (by simp;omega) _
 change Code.wp _ _ _ _ (((w.alloc (.cells (qj .u64 (qN h)) 257)).alloc (.cells Ka 257)).alloc (.cells (qj .u64 Z8) 278))
 generalize (((w.alloc (.cells (qj .u64 (qN h)) 257)).alloc (.cells Ka 257)).alloc (.cells (qj .u64 Z8) 278))=W3 at*;have R0:=hid r0;have R1:=hid r1;have R2:=hid r2;have af:=hid an;clear r0 r1 r2 an;go_loopw [16] (fun i wr=> ∃j:Nat,i= .int .i64 j/\j<=8/\wr.heap[o+1+1]? =some (.cells (qj .u64 (QA h Z8 j)) 278 (0,0))/\But (o+1+1) W3 wr) (fun i _=>8 - (intOf i).toNat)
 case atStart=>exact⟨0,rfl,by omega,R2.out,But.refl _ _⟩
 case round=>
  obtain⟨j,rfl,hj,q,G⟩:=hrel;have J:=hid q;have HB:=hid G;have ae:o+3<=wr.heap.size:=by have:=G.size;omega
  by_cases Y:j<8
  case pos=>
   have c0:wr.cell? ⟨o,j,none⟩=some (.int .u64 (wd h j)):=by
    rw[qd ((G.block o (by omega) (by omega)).trans R0.out) j,YJ (by rw[ab.out.1];omega),aE.out j Y]
   have ag:(QA h Z8 j).length=8:=Yx (by rw[I.out.1];omega) (by show j<=8;omega);have c1:wr.cell? ⟨o+1+1,j,none⟩=some (.int .u64 (wd (QA h Z8 j) j)):=by rw[qd q j,YJ (by omega)]
   have f1:=frozen_of_row wr (o+1+1) j _ _ q;have S:=heap_setCell_same wr (o+1+1) j _ _ (.int .u64 (wd h j)) q;rw[Qk,zZ (by rw[I.out.1];omega) (by show j<8;omega)]at S;have ad:=yK I.out Y;have ak:=hid S;have aI:(j:Int)<8:=by omega
   generalize wd (QA h Z8 j) j=zo at c1;generalize wd h j=zj at*;obtain⟨aB,az⟩:=ad;clear S ag q G;go_wp2
   exact⟨⟨j+1,rfl,by omega,ak.out,HB.out.set _ _⟩,by simp[intOf];omega⟩
  obtain rfl:j=8:=by omega
  rw[show QA h Z8 8=h by unfold QA;rw[List.take_of_length_le (by rw[I.out.1];omega)];simp[Z8]]at J;have ax:=aC.out.mono_below' (af.out.trans (G.below (by omega) (by omega))) (by omega);have am:=hid ax;clear q G ax hj Y;go_wp2_with fail
  refine(qcL bs v _ am.out aM.out aF.out).mono ?_;rintro e w1 ⟨rfl,V⟩;rw[aN.out];have aG:=V.size;have k0:=qf ((HB.out.block o (by omega) (by omega)).trans R0.out) V;have k1:=qf ((HB.out.block (o+1) (by omega) (by omega)).trans R1.out) V;have k2:=qf J.out V;have al:Below o w w1:=(af.out.trans (HB.out.below (by omega) (by omega))).trans (V.mono (by omega));have K0:=hid k0;have K1:=hid k1;have K2:=hid k2;have aq:=hid al;clear k0 k1 k2 al V HB J R0 R1 R2 af am;go_upto_region 8 with((with_reducible show wpList _ _ _ (Oper.mk none (Op.store 257 _ _) _ _ _ _::_) _ _);refine wpList_store_row rfl 257 _ _ rfl w1.heap.size (qj .u64 M) rfl rfl 257 _ (Wn _ _) (by rw[qg,Z.out.1];kernel_rfl) (by rw[qg,Z.out.1];rfl) qA ?_)
  refine qm ?_;intro W hW;obtain⟨bv,aj⟩:=Ex w1.heap.size;have g0:W.heap[o]? =some (.cells (qj .u64 (qN h)) 257 (0,0)):=by rw[hW];exact(setRow_other (w1.alloc _) _ _ _ (by omega)).trans ((Bh _ _ _ (by omega)).trans K0.out)
  have g1:W.heap[o+1]? =some (.cells Ka 257 (0,0)):=by rw[hW];exact(setRow_other (w1.alloc _) _ _ _ (by omega)).trans ((Bh _ _ _ (by omega)).trans K1.out)
  have g2:W.heap[o+1+1]? =some (.cells (qj .u64 h) 278 (0,0)):=by rw[hW];exact(setRow_other (w1.alloc _) _ _ _ (by omega)).trans ((Bh _ _ _ (by omega)).trans K2.out)
  have g3:W.heap[bv]? =some (.cells (qj .u64 M) 257 (0,0)):=by rw[hW,<-aj];exact setRow_heap _ _ _ _ _ _ (Wn _ _)
  have aw:Below o w W:=by rw[hW];exact below_setRow (aq.out.alloc (by omega) _) (by omega) _
  rw[aj];have aA:o+3<=bv:=by omega
  clear hW aj K0 K1 K2 aq aG ae;go_wp2_with (first|((with_reducible show wpList _ _ _ (Oper.mk (some 41) _ _ _ _ _::_) _ _);refine wpList_load_row rfl 278 _ rfl (o+1+1) rfl _ _ _ _ g2 Tryz.underlying278 rfl (by rw[qg,I.out.1];kernel_rfl) ?_)|((with_reducible show wpList _ _ _ (Oper.mk (some 42) _ _ _ _ _::_) _ _);refine wpList_load_row rfl 257 _ rfl bv rfl _ _ _ _ g3 Tryz.underlying257 rfl (by rw[qg,Z.out.1];kernel_rfl) ?_))
  refine(qkn h M I.out Z.out (lo:Nat) 0 O node _).mono ?_;rintro e w2 ⟨rfl,X⟩;rw[aD.out];have aL:=X.size;have aH:=(Ai g3).1;have j0:=qf g0 X;have j1:=qf g1 X;have j2:=qf g2 X;have ay:Below o w w2:=aw.trans (X.mono (by omega));clear g0 g1 g2 g3 aw X;go_upto_region 9 with((with_reducible show wpList _ _ _ (Oper.mk none (Op.store 278 _ _) _ _ _ _::_) _ _);refine wpList_store_row rfl 278 _ _ rfl (o+1+1) (qj .u64 R) rfl rfl 278 _ j2 (by rw[qg,r.out.1];kernel_rfl) (by rw[qg,qg,r.out.1,I.out.1]) qA ?_)
  refine qm ?_;intro W7 U;have m0:W7.heap[o]? =some (.cells (qj .u64 (QA R (qN h) 0)) 257 (0,0)):=by rw[U];exact(setRow_other w2 _ _ _ (by omega)).trans j0
  have m1:W7.heap[o+1]? =some (.cells Ka 257 (0,0)):=by rw[U];exact(setRow_other w2 _ _ _ (by omega)).trans j1
  have m2:W7.heap[o+1+1]? =some (.cells (qj .u64 R) 278 (0,0)):=by rw[U];exact setRow_heap _ _ _ _ _ _ j2
  have ar:Below o w W7:=by rw[U];exact below_setRow ay (by omega) _
  have aP:o+3<=W7.heap.size:=by rw[U,setRow_size];omega
  have M0:=hid m0;have M1:=hid m1;have M2:=hid m2;have aK:=hid ar;clear U m0 m1 m2 ar j0 j1 j2 ay aL aH aA;go_wp2_with fail
  go_loopw [19] (fun i wr=> ∃j:Nat,i= .int .i64 j/\j<=8/\wr.heap[o]? =some (.cells (qj .u64 (QA R (qN h) j)) 257 (0,0))/\But o W7 wr) (fun i _=>8 - (intOf i).toNat)
  case atStart=>exact⟨0,rfl,by omega,M0.out,But.refl _ _⟩
  case round=>
   obtain⟨j,rfl,hj,q,G⟩:=hrel;have J:=hid q;have HB:=hid G;have ae:o+3<=wr.heap.size:=by have:=G.size;omega
   have ai:(qN h).length=16:=ab.out.1;by_cases Y:j<8
   case pos=>
    have c0:wr.cell? ⟨o+1+1,j,none⟩=some (.int .u64 (wd R j)):=by rw[qd ((G.block (o+1+1) (by omega) (by omega)).trans M2.out) j,YJ (by rw[r.out.1];omega)]
    have ag:(QA R (qN h) j).length=16:=by rw[Yx (by rw[r.out.1];omega) (by omega),ai]
    have c1:wr.cell? ⟨o,j,none⟩=some (.int .u64 (wd (QA R (qN h) j) j)):=by rw[qd q j,YJ (by omega)]
    have f1:=frozen_of_row wr o j _ _ q;have S:=heap_setCell_same wr o j _ _ (.int .u64 (wd R j)) q;rw[Qk,zZ (by rw[r.out.1];omega) (by omega)]at S;have ad:=yK r.out Y;have ak:=hid S;have aI:(j:Int)<8:=by omega
    generalize wd (QA R (qN h) j) j=zo at c1;generalize wd R j=zj at*;obtain⟨aB,az⟩:=ad;clear S ag q G ai;go_wp2
    exact⟨⟨j+1,rfl,by omega,ak.out,HB.out.set _ _⟩,by simp[intOf];omega⟩
   obtain rfl:j=8:=by omega
   rw[qad r.out.1 I.out.1]at q;have n1:=(G.block (o+1) (by omega) (by omega)).trans M1.out;have aJ:Below o w wr:=aK.out.trans (G.below Nl (by omega));have aa:=Qh (by decide) r.out;clear G ai hj Y J;go_wp2_with (first|((with_reducible show wpList _ _ _ (Oper.mk (some 57) _ _ _ _ _::_) _ _);refine wpList_load_row rfl 257 _ rfl o rfl _ _ _ _ q Tryz.underlying257 rfl (by rw[qg,aa.1];kernel_rfl) ?_)|((with_reducible show wpList _ _ _ (Oper.mk none (Op.store 257 _ _) _ _ _ _::_) _ _);refine wpList_store_row rfl 257 _ _ rfl (o+1) (qj .u64 (qN R)) rfl rfl 257 _ n1 (by rw[qg,aa.1];kernel_rfl) (by rw[qg,aa.1];rfl) qA ?_))
   exact Bp (results_cell_row rfl _ _ (o+1) 257 _ _ _ rfl (setRow_heap _ _ _ _ _ _ n1) Tryz.underlying257 rfl (by rw[qg,aa.1];kernel_rfl)) rfl ⟨rfl,by rw[D];exact below_setRow aJ (by omega) _⟩
theorem qa4 (h bs:List Int)(hh:Words 32 8 h)(v:Value)(lo:Nat)(ap:(lo:Int)<9223372036854775808)(S node:Bool)(w:World)(hH:Holds8 w v bs)(hz: ∀z∈bs,0<=z/\z<=255)(hl:bs.length=64):
  Calls Tryz.prog 185 #[.int .i64 2,.agg (qj .u64 (qN h)),v,.int .u64 lo,.int .u64 0,.bool S,.bool node] w fun e w'=>e= .returned (.agg (qj .u64 (qN (yR false h bs (lo:Nat) S node))))/\Below w.heap.size w w':=by
 obtain⟨o,D⟩:=Ex w.heap.size;have ah:=yu 4 16 hz (by rw[hl]);obtain⟨M,hM⟩:=Ex (Q7 4 16 bs);obtain⟨R,hR⟩:=Ex (yR false h bs (lo:Nat) S node);have ao:Words 32 8 R:=by rw[<-hR];exact Q1 false hh _ _ _ _
 have av:Zy mixSmall IVs 10 h M ((lo:Nat)%4294967296) ((lo:Nat)/4294967296) S node=R:=by rw[<-hR,<-hM];rfl
 rw[hR];rw[hM]at ah;have ad:=Qh (by decide) hh;have au: ∀j,j<8->wd (qN h) j=wd h j:=fun j hj=>qbz hh.1 hj
 have aP:=hid hM;have aE:=hid av;have aH:=hid hl;have aB:=hid ap;have aa:=hid ah;have r:=hid ao;have I:=hid hh;have ac:=hid ad;have aF:=hid au;have aO:=hid hz;have aD:=hid hH;clear hM hR av hl ap ah ao au ad hz hH hh;go_enter Tryz.func185,Tryz.ntmps185
 go_wp2_with fail
 have aR:(((w.alloc (.cells (qj .u64 (qN h)) 257)).alloc (.cells Ka 257)).alloc (.cells (qj .u32 Z8) 288)).heap.size=o+3:=by simp[D]
 have r0:(((w.alloc (.cells (qj .u64 (qN h)) 257)).alloc (.cells Ka 257)).alloc (.cells (qj .u32 Z8) 288)).heap[o]? =some (.cells (qj .u64 (qN h)) 257 (0,0)):=by
  rw[Bh _ _ _ (by simp[D];omega),Bh _ _ _ (by simp[D]),<-D];exact Wn _ _
 have r1:(((w.alloc (.cells (qj .u64 (qN h)) 257)).alloc (.cells Ka 257)).alloc (.cells (qj .u32 Z8) 288)).heap[o+1]? =some (.cells Ka 257 (0,0)):=by
  rw[Bh _ _ _ (by simp[D]),show o+1=(w.alloc (.cells (qj .u64 (qN h)) 257)).heap.size by simp[D]];exact Wn _ _
 have r2:(((w.alloc (.cells (qj .u64 (qN h)) 257)).alloc (.cells Ka 257)).alloc (.cells (qj .u32 Z8) 288)).heap[o+1+1]? =some (.cells (qj .u32 (QA h Z8 0)) 288 (0,0)):=by
  rw[show o+1+1=((w.alloc (.cells (qj .u64 (qN h)) 257)).alloc (.cells Ka 257)).heap.size by simp[D]];exact Wn _ _
 have an:Below o w (((w.alloc (.cells (qj .u64 (qN h)) 257)).alloc (.cells Ka 257)).alloc (.cells (qj .u32 Z8) 288)):=by rw[<-D];exact((Br.alloc Nl _).alloc (by simp) _).alloc (by simp;omega) _
 change Code.wp _ _ _ _ (((w.alloc (.cells (qj .u64 (qN h)) 257)).alloc (.cells Ka 257)).alloc (.cells (qj .u32 Z8) 288))
 generalize (((w.alloc (.cells (qj .u64 (qN h)) 257)).alloc (.cells Ka 257)).alloc (.cells (qj .u32 Z8) 288))=W3 at*;have R0:=hid r0;have R1:=hid r1;have R2:=hid r2;have af:=hid an;clear r0 r1 r2 an;go_loopw [21] (fun i wr=> ∃j:Nat,i= .int .i64 j/\j<=8/\wr.heap[o+1+1]? =some (.cells (qj .u32 (QA h Z8 j)) 288 (0,0))/\But (o+1+1) W3 wr) (fun i _=>8 - (intOf i).toNat)
 case atStart=>exact⟨0,rfl,by omega,R2.out,But.refl _ _⟩
 case round=>
  obtain⟨j,rfl,hj,q,G⟩:=hrel;have O:=hid q;have HB:=hid G;have ae:o+3<=wr.heap.size:=by have:=G.size;omega
  by_cases Z:j<8
  case pos=>
   have c0:wr.cell? ⟨o,j,none⟩=some (.int .u64 (wd h j)):=by
    rw[qd ((G.block o (by omega) (by omega)).trans R0.out) j,YJ (by rw[ac.out.1];omega),aF.out j Z]
   have ag:(QA h Z8 j).length=8:=Yx (by rw[I.out.1];omega) (by show j<=8;omega);have c1:wr.cell? ⟨o+1+1,j,none⟩=some (.int .u32 (wd (QA h Z8 j) j)):=by rw[qd q j,YJ (by omega)]
   have f1:=frozen_of_row wr (o+1+1) j _ _ q;have U:=heap_setCell_same wr (o+1+1) j _ _ (.int .u32 (wd h j)) q;rw[Qk,zZ (by rw[I.out.1];omega) (by show j<8;omega)]at U;have J:=yK I.out Z;have aG:IntKind.u32.wrap (wd h j)=wd h j:=by rw[IntKind.wrap_u32];exact Int.emod_eq_of_lt J.1 J.2
   have ak:=hid U;have aK:(j:Int)<8:=by omega
   generalize wd (QA h Z8 j) j=zo at c1;generalize wd h j=zj at*;obtain⟨aC,az⟩:=J;clear U ag q G;go_wp2
   exact⟨⟨j+1,rfl,by omega,ak.out,HB.out.set _ _⟩,by simp[intOf];omega⟩
  obtain rfl:j=8:=by omega
  rw[show QA h Z8 8=h by unfold QA;rw[List.take_of_length_le (by rw[I.out.1];omega)];simp[Z8]]at O;have ax:=aD.out.mono_below' (af.out.trans (G.below (by omega) (by omega))) (by omega);have am:=hid ax;clear q G ax hj Z;go_wp2_with fail
  refine(qcM bs v _ am.out aO.out aH.out).mono ?_;rintro e w1 ⟨rfl,X⟩;rw[aP.out];have aI:=X.size;have k0:=qf ((HB.out.block o (by omega) (by omega)).trans R0.out) X;have k1:=qf ((HB.out.block (o+1) (by omega) (by omega)).trans R1.out) X;have k2:=qf O.out X;have al:Below o w w1:=(af.out.trans (HB.out.below (by omega) (by omega))).trans (X.mono (by omega));have K0:=hid k0;have K1:=hid k1;have K2:=hid k2;have aq:=hid al;clear k0 k1 k2 al X HB O R0 R1 R2 af am;go_upto_region 20 with((with_reducible show wpList _ _ _ (Oper.mk none (Op.store 302 _ _) _ _ _ _::_) _ _);refine wpList_store_row rfl 302 _ _ rfl w1.heap.size (qj .u32 M) rfl rfl 302 _ (Wn _ _) (by rw[qg,aa.out.1];kernel_rfl) (by rw[qg,aa.out.1];rfl) qA ?_)
  refine qm ?_;intro W hW;obtain⟨bv,aj⟩:=Ex w1.heap.size;have g0:W.heap[o]? =some (.cells (qj .u64 (qN h)) 257 (0,0)):=by rw[hW];exact(setRow_other (w1.alloc _) _ _ _ (by omega)).trans ((Bh _ _ _ (by omega)).trans K0.out)
  have g1:W.heap[o+1]? =some (.cells Ka 257 (0,0)):=by rw[hW];exact(setRow_other (w1.alloc _) _ _ _ (by omega)).trans ((Bh _ _ _ (by omega)).trans K1.out)
  have g2:W.heap[o+1+1]? =some (.cells (qj .u32 h) 288 (0,0)):=by rw[hW];exact(setRow_other (w1.alloc _) _ _ _ (by omega)).trans ((Bh _ _ _ (by omega)).trans K2.out)
  have g3:W.heap[bv]? =some (.cells (qj .u32 M) 302 (0,0)):=by rw[hW,<-aj];exact setRow_heap _ _ _ _ _ _ (Wn _ _)
  have aw:Below o w W:=by rw[hW];exact below_setRow (aq.out.alloc (by omega) _) (by omega) _
  rw[aj];have aA:o+3<=bv:=by omega
  clear hW aj K0 K1 K2 aq aI ae;go_wp2_with (first|((with_reducible show wpList _ _ _ (Oper.mk (some 73) _ _ _ _ _::_) _ _);refine wpList_load_row rfl 288 _ rfl (o+1+1) rfl _ _ _ _ g2 Tryz.underlying288 rfl (by rw[qg,I.out.1];kernel_rfl) ?_)|((with_reducible show wpList _ _ _ (Oper.mk (some 74) _ _ _ _ _::_) _ _);refine wpList_load_row rfl 302 _ rfl bv rfl _ _ _ _ g3 Tryz.underlying302 rfl (by rw[qg,aa.out.1];kernel_rfl) ?_))
  refine(qko h M I.out aa.out (lo:Nat) (by omega) (by have:=aB.out;omega) S node _).mono ?_;rintro e w2 ⟨rfl,Y⟩;rw[aE.out];have aN:=Y.size;have aJ:=(Ai g3).1;have j0:=qf g0 Y;have j1:=qf g1 Y;have j2:=qf g2 Y;have ay:Below o w w2:=aw.trans (Y.mono (by omega));clear g0 g1 g2 g3 aw Y;go_upto_region 21 with((with_reducible show wpList _ _ _ (Oper.mk none (Op.store 288 _ _) _ _ _ _::_) _ _);refine wpList_store_row rfl 288 _ _ rfl (o+1+1) (qj .u32 R) rfl rfl 288 _ j2 (by rw[qg,r.out.1];kernel_rfl) (by rw[qg,qg,r.out.1,I.out.1]) qA ?_)
  refine qm ?_;intro W7 V;have m0:W7.heap[o]? =some (.cells (qj .u64 (QA R (qN h) 0)) 257 (0,0)):=by rw[V];exact(setRow_other w2 _ _ _ (by omega)).trans j0
  have m1:W7.heap[o+1]? =some (.cells Ka 257 (0,0)):=by rw[V];exact(setRow_other w2 _ _ _ (by omega)).trans j1
  have m2:W7.heap[o+1+1]? =some (.cells (qj .u32 R) 288 (0,0)):=by rw[V];exact setRow_heap _ _ _ _ _ _ j2
  have ar:Below o w W7:=by rw[V];exact below_setRow ay (by omega) _
  have aQ:o+3<=W7.heap.size:=by rw[V,setRow_size];omega
  have M0:=hid m0;have M1:=hid m1;have M2:=hid m2;have aM:=hid ar;clear V m0 m1 m2 ar j0 j1 j2 ay aN aJ aA;go_wp2_with fail
  go_loopw [24] (fun i wr=> ∃j:Nat,i= .int .i64 j/\j<=8/\wr.heap[o]? =some (.cells (qj .u64 (QA R (qN h) j)) 257 (0,0))/\But o W7 wr) (fun i _=>8 - (intOf i).toNat)
  case atStart=>exact⟨0,rfl,by omega,M0.out,But.refl _ _⟩
  case round=>
   obtain⟨j,rfl,hj,q,G⟩:=hrel;have O:=hid q;have HB:=hid G;have ae:o+3<=wr.heap.size:=by have:=G.size;omega
   have ai:(qN h).length=16:=ac.out.1;by_cases Z:j<8
   case pos=>
    have c0:wr.cell? ⟨o+1+1,j,none⟩=some (.int .u32 (wd R j)):=by rw[qd ((G.block (o+1+1) (by omega) (by omega)).trans M2.out) j,YJ (by rw[r.out.1];omega)]
    have ag:(QA R (qN h) j).length=16:=by rw[Yx (by rw[r.out.1];omega) (by omega),ai]
    have c1:wr.cell? ⟨o,j,none⟩=some (.int .u64 (wd (QA R (qN h) j) j)):=by rw[qd q j,YJ (by omega)]
    have f1:=frozen_of_row wr o j _ _ q;have U:=heap_setCell_same wr o j _ _ (.int .u64 (wd R j)) q;rw[Qk,zZ (by rw[r.out.1];omega) (by omega)]at U;have J:=yK r.out Z;have aG:IntKind.u64.wrap (wd R j)=wd R j:=u64_wrap_id _ J.1 (by have:=J.2;simp at this;omega);have ak:=hid U;have aK:(j:Int)<8:=by omega
    generalize wd (QA R (qN h) j) j=zo at c1;generalize wd R j=zj at*;obtain⟨aC,az⟩:=J;clear U ag q G ai;go_wp2
    exact⟨⟨j+1,rfl,by omega,ak.out,HB.out.set _ _⟩,by simp[intOf];omega⟩
   obtain rfl:j=8:=by omega
   rw[qad r.out.1 I.out.1]at q;have n1:=(G.block (o+1) (by omega) (by omega)).trans M1.out;have aL:Below o w wr:=aM.out.trans (G.below Nl (by omega));have ab:=Qh (by decide) r.out;clear G ai hj Z O;go_wp2_with (first|((with_reducible show wpList _ _ _ (Oper.mk (some 89) _ _ _ _ _::_) _ _);refine wpList_load_row rfl 257 _ rfl o rfl _ _ _ _ q Tryz.underlying257 rfl (by rw[qg,ab.1];kernel_rfl) ?_)|((with_reducible show wpList _ _ _ (Oper.mk none (Op.store 257 _ _) _ _ _ _::_) _ _);refine wpList_store_row rfl 257 _ _ rfl (o+1) (qj .u64 (qN R)) rfl rfl 257 _ n1 (by rw[qg,ab.1];kernel_rfl) (by rw[qg,ab.1];rfl) qA ?_))
   exact Bp (results_cell_row rfl _ _ (o+1) 257 _ _ _ rfl (setRow_heap _ _ _ _ _ _ n1) Tryz.underlying257 rfl (by rw[qg,ab.1];kernel_rfl)) rfl ⟨rfl,by rw[D];exact below_setRow aL (by omega) _⟩
def rN (kd:Int)(v:Nat->Nat)(sa pe kv:Value)(la:Bool)(mv:Value)(cnt:Int):Array Value:= #[.int .i64 kd,.int .i64 (v 1),.int .i64 (v 2),.int .i64 (v 3),.int .i64 (v 4),.int .u32 (v 5),.int .u64 (v 6),.int .u32 (v 7),.int .i64 (v 8),.int .i64 (v 9),sa,pe,kv,.bool la,.int .u64 0,.int .u64 0,.int .u64 0,.int .u64 0,.int .u64 0,.int .u64 0,.int .u64 0,.int .u64 0,.int .u64 0,.int .u64 0,.int .u64 0,.int .u64 0,.int .u64 0,.int .u64 0,.int .u64 0,.int .u64 0,.bool false,.int .u64 0,.int .u64 0,mv,.int .u64 cnt]
def YD (big:Bool)(w:World)(np:Nat)(v:Nat->Nat)(sa pe kv:Value)(la:Bool)(mv:Value)(cnt:Int):Prop:=w.heap[np]? =some (.cells (rN (kB big) v sa pe kv la mv cnt) 259 (0,0))
def qhM (v:Nat->Nat)(sa pe:Value):Array Value:= #[.int .i64 (v 1),.int .i64 (v 2),.int .i64 (v 3),.int .i64 (v 4),.int .u32 (v 5),.int .u64 (v 6),.int .u32 (v 7),.int .i64 (v 8),.int .i64 (v 9),sa,pe]
theorem qiM (J:Int)(v:Nat->Nat)(q o I:Value)(la:Bool)(G:Value)(D:Int): ∀j,j<(qhM v q o).size->(rN J v q o I la G D)[1+j]? =(qhM v q o)[j]? :=by
 intro j r;have r:j<11:=r;rcases(show j=0\/j=1\/j=2\/j=3\/j=4\/j=5\/j=6\/j=7\/j=8\/j=9\/j=10 by omega)with rfl|rfl|rfl|rfl|rfl|rfl|rfl|rfl|rfl|rfl|rfl<;>rfl
theorem jv (o: ∀z∈b,0<=z/\z<=255)(q: ∀z∈zs,0<=z/\z<=255): ∀z∈Qn b p zs,0<=z/\z<=255:=by
 intro z h;unfold Qn at h;rcases List.mem_append.1 h with h|h
 ·rcases List.mem_append.1 h with h|h
  ·exact o z (List.mem_of_mem_take h)
  ·exact q z h
 ·exact o z (List.mem_of_mem_drop h)
theorem jJ (big o:Bool)(v:Nat->Nat): ∀k,∀z∈QD big o v k,0<=z/\z<=255
 | 0,z,h=>by rw[List.eq_of_mem_replicate h];omega
 | k+1,z,h=>by
  rw[QD]at h;split at h
  ·exact jJ big o v k z h
  ·exact jv (jJ big o v k) (zr _ _) z h
theorem ZA (o: ∀z∈z1,0<=z/\z<=255)(q: ∀z∈z2,0<=z/\z<=255): ∀z∈QV big v z1 z2,0<=z/\z<=255:=
 jv (jv (jJ _ _ _ _) o) q
theorem qcP (v:Nat->Nat)(z1 z2:List Int)(sa pe kv mv:Value)(la:Bool)(al:Int)(J:Nat)(w:World)(hN:YD true w J v sa pe kv la mv al)(hP:ParOk true v)(h1:Hold w sa z1)(h2:Hold w pe z2)(aM:z1.length<=16)(aI:z2.length<=16):
  Calls Tryz.prog 196 #[.pointer (some ⟨J,0,none⟩)] w fun e w'=>e= .returned (.agg (qj .u64 (qN (h0Z true (QV true v z1 z2)))))/\Below w.heap.size w w':=by
 obtain⟨q,aa⟩:=Ex w.heap.size;have bb:J<q:=by rw[<-aa];exact(Ai hN).1
 have aO:=fun(W:World) (I:Below q w W)=>jB v z1 z2 sa pe W hP (h1.below (aa▸I)) (h2.below (aa▸I)) aM aI
 have aJ: ∀z∈QV true v z1 z2,0<=z/\z<=255:=ZA h1.1 h2.1;have aC:=yC (big:=true) (v:=v) aM aI;generalize QV true v z1 z2=U at*;obtain⟨H,ah⟩:=Ex (h0Z true U);have aH:Words 64 8 H:=by rw[<-ah];exact Q4 true U
 have aL:yL .u64 IVb 8 U=H:=by rw[<-ah];rfl
 rw[ah];have ag:w.heap[J]? =some (.cells (rN 1 v sa pe kv la mv al) 259 (0,0)):=hN;have aQ:=hid aO;have aP:=hid aJ;have aS:=hid aC;have aU:=hid aL;have O:=hid aH;have ax:=hid ag;have a5:w.cell? ⟨J,30,none⟩=some (.bool false):=qd ag 30;have aq:w.cell? ⟨J,0,none⟩=some (.int .i64 1):=qd ag 0;have ae:J<w.heap.size:=by omega
 clear hN ag aO aJ aC ah aL aH hP h1 h2;go_enter Tryz.func196,Tryz.ntmps196
 go_upto_region 4 with(fail)
 have a8:((w.alloc (.cells Ka 257)).alloc (.cells Ka 257)).heap.size=q+2:=by simp[aa]
 have r0:((w.alloc (.cells Ka 257)).alloc (.cells Ka 257)).heap[q]? =some (.cells Ka 257 (0,0)):=by rw[Bh _ _ _ (by simp[aa]),<-aa];exact Wn _ _
 have r1:((w.alloc (.cells Ka 257)).alloc (.cells Ka 257)).heap[q+1]? =some (.cells (qj .u64 (QA H (qN Z8) 0)) 257 (0,0)):=by rw[show q+1=(w.alloc (.cells Ka 257)).heap.size by simp[aa]];exact Wn _ _
 have am:Below q w ((w.alloc (.cells Ka 257)).alloc (.cells Ka 257)):=by rw[<-aa];exact(Br.alloc Nl _).alloc (by simp) _
 generalize ((w.alloc (.cells Ka 257)).alloc (.cells Ka 257))=X at*;have aF:X.heap[J]? =some (.cells (rN 1 v sa pe kv la mv al) 259 (0,0)):=(am.block J bb).trans ax.out;have R0:=hid r0;have R1:=hid r1;have ak:=hid am;have af:=hid aF;clear r0 r1 am aF a5 aq ax ae;refine qE (n:=14) (w0:=X) (B:=X.heap.size) [.z 21 J 0,.z 22 J 0,.z 23 J 0,.v 24 (.int .i64 1),.z 25 J 0,.z 26 J 0,.z 27 J 1,.v 28 (.agg (qhM v sa pe)),.p 29 (fun u W=> ∃r,u= .tuple #[r,.int .i64 0]/\W.ownsRow X.heap.size 5 1 r 64 (U.map qp)),.p 20 (fun u W=> ∃r,u= .tuple #[r,.int .i64 0]/\W.ownsRow X.heap.size 5 1 r 64 (U.map qp)),.p 30 (fun u W=>W.ownsRow X.heap.size 5 1 u 64 (U.map qp)),.v 31 (.int .i64 0),.p 4 (fun u W=>W.ownsRow X.heap.size 5 1 u 64 (U.map qp)),.v 5 (.int .i64 0)] (by exact⟨(fun _ _ _ h I=>by obtain⟨r,e,h⟩:=h;exact⟨r,e,qi h (fun g _ hg=>I.block g hg)⟩),(fun _ _ _ h I=>by obtain⟨r,e,h⟩:=h;exact⟨r,e,qi h (fun g _ hg=>I.block g hg)⟩),(fun _ _ _ h I=>qi h (fun g _ hg=>I.block g hg)),(fun _ _ _ h I=>qi h (fun g _ hg=>I.block g hg)),trivial⟩) Br.drew Nl ?_ ?_
 ·repeat' (with_reducible first|exact qz|refine qx ?_ ?_)
  all_goals try
   intro A x W G S V o D K Y;have a0:=G.2 0 (by decide);conv at a0=>rhs;whnf
   simp only[QS,yc]at D;clear o G;go_simp
   exact Y _ _ BR rfl
  ·intro A x W G S V o _ K Y;have bl:=gv G o 2 23;clear o G;have g0:=qf af.out S;have c0:W.cell? ⟨J,0,none⟩=some (.int .i64 1):=qd g0 0;go_simp
   exact Y _ _ BR rfl
  ·intro A x W G S V o _ K Y;have aZ:=gv G o 6 27;clear o G;have g0:=qf af.out S;refine Qt 179 _ rfl J 1 aZ 259 _ (qhM v sa pe) (0,0) _ g0 Tryz.underlying179 rfl (by kernel_rfl) (qiM _ _ _ _ _ _ _ _) (Y _ _ Br rfl)
  ·intro A x W G S V o _ K Y;have bm:=gv G o 3 24;have bj:=gv G o 7 28;clear o G;go_simp
   refine(aQ.out W (ak.out.trans (S.mono (by omega)))).mono ?_;rintro e w' ⟨⟨r,rfl,ho⟩,I⟩;exact Y _ _ I ⟨r,rfl,ownsRow_le ho V⟩
  ·intro A x W G S V o _ K Y;have ba:(fun u W=> ∃r,u= .tuple #[r,.int .i64 0]/\W.ownsRow X.heap.size 5 1 r 64 (U.map qp)) (x 29) W:=o ⟨8,.data⟩ (by simp) rfl _ rfl;have a9:A.tmps.getD 29 undef=x 29:=G.1 29 (by decide);clear o G;go_simp
   exact Y _ _ Br (a9▸ba)
  ·intro A x W G S V o _ K Y;have ai:(fun u W=> ∃r,u= .tuple #[r,.int .i64 0]/\W.ownsRow X.heap.size 5 1 r 64 (U.map qp)) (x 20) W:=o ⟨9,.data⟩ (by simp) rfl _ rfl;have aj:A.tmps.getD 20 undef=x 20:=G.1 20 (by decide);clear o G;obtain⟨r,er,hr⟩:=ai;rw[er]at aj;go_simp
   exact Y _ _ Br hr
  ·intro A x W G S V o _ K Y;have ai:(fun u W=> ∃r,u= .tuple #[r,.int .i64 0]/\W.ownsRow X.heap.size 5 1 r 64 (U.map qp)) (x 20) W:=o ⟨9,.data⟩ (by simp) rfl _ rfl;have aj:A.tmps.getD 20 undef=x 20:=G.1 20 (by decide);clear o G;obtain⟨r,er,hr⟩:=ai;rw[er]at aj;go_simp
   exact Y _ _ BR rfl
  ·intro A x W G S V o _ K Y;have aY:(fun u W=>W.ownsRow X.heap.size 5 1 u 64 (U.map qp)) (x 30) W:=o ⟨10,.data⟩ (by simp) rfl _ rfl;have a6:A.tmps.getD 30 undef=x 30:=G.1 30 (by decide);clear o G;go_simp
   exact Y _ _ Br (a6▸aY)
 intro x W S V aR;obtain⟨av,aK,aB,e4, -⟩:=aR;change (fun u W=> ∃r,u= .tuple #[r,.int .i64 0]/\W.ownsRow X.heap.size 5 1 r 64 (U.map qp)) (x 29) W at av
 change (fun u W=> ∃r,u= .tuple #[r,.int .i64 0]/\W.ownsRow X.heap.size 5 1 r 64 (U.map qp)) (x 20) W at aK
 change (fun u W=>W.ownsRow X.heap.size 5 1 u 64 (U.map qp)) (x 30) W at aB
 change (fun u W=>W.ownsRow X.heap.size 5 1 u 64 (U.map qp)) (x 4) W at e4
 refine qw ?_;simp only[QG,Act.put,Ls];have az:=yj e4;have aE:Below q w W:=ak.out.trans (S.mono (by omega));have g0:=qf af.out S;have r0:=qf R0.out S;have r1:=qf R1.out S;have aq:W.cell? ⟨J,0,none⟩=some (.int .i64 1):=qd g0 0;have ae:J<W.heap.size:=(Ai g0).1;have aW:q+2<=W.heap.size:=by have:=S.size;omega
 have ar:=hid r0;have aD:=hid r1;have aw:=hid aE;have aG:=hid az;clear av aK aB e4 az aE g0 r0 r1 S V R0 R1 ak af a8;go_wp2_with fail
 refine(qf4 U _ _ aG.out aP.out aS.out).mono ?_;rintro e w1 ⟨rfl,ad⟩;rw[aU.out];have aV:=ad.size;have k0:=qf ar.out ad;have k1:=qf aD.out ad;have au:Below q w w1:=aw.out.trans (ad.mono (by omega));have K0:=hid k0;have K1:=hid k1;have ay:=hid au;clear k0 k1 au ad ar aD aw aG aq ae;go_upto_region 7 with((with_reducible show wpList _ _ _ (Oper.mk none (Op.store 278 _ _) _ _ _ _::_) _ _);refine wpList_store_row rfl 278 _ _ rfl w1.heap.size (qj .u64 H) rfl rfl 278 _ (Wn _ _) (by rw[qg,O.out.1];kernel_rfl) (by rw[qg,O.out.1];rfl) qA ?_)
 refine qm ?_;intro W7 ac;obtain⟨bv,ap⟩:=Ex w1.heap.size;have m0:W7.heap[q]? =some (.cells Ka 257 (0,0)):=by rw[ac];exact(setRow_other (w1.alloc _) _ _ _ (by omega)).trans ((Bh _ _ _ (by omega)).trans K0.out)
 have m1:W7.heap[q+1]? =some (.cells (qj .u64 (QA H (qN Z8) 0)) 257 (0,0)):=by rw[ac];exact(setRow_other (w1.alloc _) _ _ _ (by omega)).trans ((Bh _ _ _ (by omega)).trans K1.out)
 have m2:W7.heap[bv]? =some (.cells (qj .u64 H) 278 (0,0)):=by rw[ac,<-ap];exact setRow_heap _ _ _ _ _ _ (Wn _ _)
 have aA:Below q w W7:=by rw[ac];exact below_setRow (ay.out.alloc (by omega) _) (by omega) _
 have bf:bv<W7.heap.size:=(Ai m2).1;have be:q+2<=bv:=by omega
 rw[ap];have M0:=hid m0;have M1:=hid m1;have M2:=hid m2;have a4:=hid aA;clear ac ap m0 m1 m2 aA K0 K1 ay aV aW;go_wp2_with fail
 go_loopw [8] (fun i wr=> ∃j:Nat,i= .int .i64 j/\j<=8/\wr.heap[q+1]? =some (.cells (qj .u64 (QA H (qN Z8) j)) 257 (0,0))/\But (q+1) W7 wr) (fun i _=>8 - (intOf i).toNat)
 case atStart=>exact⟨0,rfl,by omega,M1.out,But.refl _ _⟩
 case round=>
  obtain⟨j,rfl,hj,Z,I⟩:=hrel;have aT:=hid Z;have HB:=hid I;have bh:bv<wr.heap.size:=by have:=I.size;omega
  have ao:(qN Z8).length=16:=rfl;by_cases aN:j<8
  case pos=>
   have c0:wr.cell? ⟨bv,j,none⟩=some (.int .u64 (wd H j)):=by rw[qd ((I.block bv (by omega) (by omega)).trans M2.out) j,YJ (by rw[O.out.1];omega)]
   have a7:(QA H (qN Z8) j).length=16:=by rw[Yx (by rw[O.out.1];omega) (by omega),ao]
   have c1:wr.cell? ⟨q+1,j,none⟩=some (.int .u64 (wd (QA H (qN Z8) j) j)):=by rw[qd Z j,YJ (by omega)]
   have f1:=frozen_of_row wr (q+1) j _ _ Z;have an:=heap_setCell_same wr (q+1) j _ _ (.int .u64 (wd H j)) Z;rw[Qk,zZ (by rw[O.out.1];omega) (by omega)]at an;have aX:=yK O.out aN;have bc:=hid an;have bk:(j:Int)<8:=by omega
   generalize wd (QA H (qN Z8) j) j=zo at c1;generalize wd H j=zj at*;obtain⟨bg,bd⟩:=aX;clear an a7 Z I ao;go_wp2
   exact⟨⟨j+1,rfl,by omega,bc.out,HB.out.set _ _⟩,by simp[intOf];omega⟩
  obtain rfl:j=8:=by omega
  rw[qad O.out.1 rfl]at Z;have n1:=(I.block q (by omega) (by omega)).trans M0.out;have a3:Below q w wr:=a4.out.trans (I.below (by omega) (by omega));have ab:=Qh (by decide) O.out;have bi:q+1<wr.heap.size:=by omega
  clear I ao hj aN aT;go_wp2_with (first|((with_reducible show wpList _ _ _ (Oper.mk (some 51) _ _ _ _ _::_) _ _);refine wpList_load_row rfl 257 _ rfl (q+1) rfl _ _ _ _ Z Tryz.underlying257 rfl (by rw[qg,ab.1];kernel_rfl) ?_)|((with_reducible show wpList _ _ _ (Oper.mk none (Op.store 257 _ _) _ _ _ _::_) _ _);refine wpList_store_row rfl 257 _ _ rfl q (qj .u64 (qN H)) rfl rfl 257 _ n1 (by rw[qg,ab.1];kernel_rfl) (by rw[qg,ab.1];rfl) qA ?_))
  exact Bp (results_cell_row rfl _ _ q 257 _ _ _ rfl (setRow_heap _ _ _ _ _ _ n1) Tryz.underlying257 rfl (by rw[qg,ab.1];kernel_rfl)) rfl ⟨rfl,by rw[aa];exact below_setRow a3 Nl _⟩
theorem qb5 (v:Nat->Nat)(z1 z2:List Int)(sa pe kv mv:Value)(la:Bool)(am:Int)(J:Nat)(w:World)(hN:YD false w J v sa pe kv la mv am)(hP:ParOk false v)(h1:Hold w sa z1)(h2:Hold w pe z2)(aN:z1.length<=8)(aJ:z2.length<=8):
  Calls Tryz.prog 196 #[.pointer (some ⟨J,0,none⟩)] w fun e w'=>e= .returned (.agg (qj .u64 (qN (h0Z false (QV false v z1 z2)))))/\Below w.heap.size w w':=by
 obtain⟨q,aa⟩:=Ex w.heap.size;have bb:J<q:=by rw[<-aa];exact(Ai hN).1
 have aP:=fun(W:World) (I:Below q w W)=>ja v z1 z2 sa pe W hP (h1.below (aa▸I)) (h2.below (aa▸I)) aN aJ
 have aK: ∀z∈QV false v z1 z2,0<=z/\z<=255:=ZA h1.1 h2.1;have aD:=yC (big:=false) (v:=v) aN aJ;generalize QV false v z1 z2=U at*;obtain⟨H,ah⟩:=Ex (h0Z false U);have aI:Words 32 8 H:=by rw[<-ah];exact Q4 false U
 have aM:yL .u32 IVs 4 U=H:=by rw[<-ah];rfl
 rw[ah];have ag:w.heap[J]? =some (.cells (rN 2 v sa pe kv la mv am) 259 (0,0)):=hN;have aR:=hid aP;have aQ:=hid aK;have aT:=hid aD;have aV:=hid aM;have O:=hid aI;have ay:=hid ag;have a5:w.cell? ⟨J,30,none⟩=some (.bool false):=qd ag 30;have ar:w.cell? ⟨J,0,none⟩=some (.int .i64 2):=qd ag 0;have ae:J<w.heap.size:=by omega
 clear hN ag aP aK aD ah aM aI hP h1 h2;go_enter Tryz.func196,Tryz.ntmps196
 go_upto_region 4 with(fail)
 have a8:((w.alloc (.cells Ka 257)).alloc (.cells Ka 257)).heap.size=q+2:=by simp[aa]
 have r0:((w.alloc (.cells Ka 257)).alloc (.cells Ka 257)).heap[q]? =some (.cells Ka 257 (0,0)):=by rw[Bh _ _ _ (by simp[aa]),<-aa];exact Wn _ _
 have r1:((w.alloc (.cells Ka 257)).alloc (.cells Ka 257)).heap[q+1]? =some (.cells (qj .u64 (QA H (qN Z8) 0)) 257 (0,0)):=by rw[show q+1=(w.alloc (.cells Ka 257)).heap.size by simp[aa]];exact Wn _ _
 have an:Below q w ((w.alloc (.cells Ka 257)).alloc (.cells Ka 257)):=by rw[<-aa];exact(Br.alloc Nl _).alloc (by simp) _
 generalize ((w.alloc (.cells Ka 257)).alloc (.cells Ka 257))=X at*;have aG:X.heap[J]? =some (.cells (rN 2 v sa pe kv la mv am) 259 (0,0)):=(an.block J bb).trans ay.out;have R0:=hid r0;have R1:=hid r1;have al:=hid an;have af:=hid aG;clear r0 r1 an aG a5 ar ay ae;refine qE (n:=14) (w0:=X) (B:=X.heap.size) [.z 21 J 0,.z 22 J 0,.z 23 J 0,.v 24 (.int .i64 2),.z 25 J 0,.z 26 J 0,.z 27 J 1,.v 28 (.agg (qhM v sa pe)),.p 29 (fun u W=> ∃r,u= .tuple #[r,.int .i64 0]/\W.ownsRow X.heap.size 5 1 r 32 (U.map qp)),.p 20 (fun u W=> ∃r,u= .tuple #[r,.int .i64 0]/\W.ownsRow X.heap.size 5 1 r 32 (U.map qp)),.p 30 (fun u W=>W.ownsRow X.heap.size 5 1 u 32 (U.map qp)),.v 31 (.int .i64 0),.p 4 (fun u W=>W.ownsRow X.heap.size 5 1 u 32 (U.map qp)),.v 5 (.int .i64 0)] (by exact⟨(fun _ _ _ h I=>by obtain⟨r,e,h⟩:=h;exact⟨r,e,qi h (fun g _ hg=>I.block g hg)⟩),(fun _ _ _ h I=>by obtain⟨r,e,h⟩:=h;exact⟨r,e,qi h (fun g _ hg=>I.block g hg)⟩),(fun _ _ _ h I=>qi h (fun g _ hg=>I.block g hg)),(fun _ _ _ h I=>qi h (fun g _ hg=>I.block g hg)),trivial⟩) Br.drew Nl ?_ ?_
 ·repeat' (with_reducible first|exact qz|refine qx ?_ ?_)
  all_goals try
   intro A x W G S V o D K Y;have a0:=G.2 0 (by decide);conv at a0=>rhs;whnf
   simp only[QS,yc]at D;clear o G;go_simp
   exact Y _ _ BR rfl
  ·intro A x W G S V o _ K Y;have bm:=gv G o 2 23;clear o G;have g0:=qf af.out S;have c0:W.cell? ⟨J,0,none⟩=some (.int .i64 2):=qd g0 0;go_simp
   exact Y _ _ BR rfl
  ·intro A x W G S V o _ K Y;have aZ:=gv G o 6 27;clear o G;have g0:=qf af.out S;refine Qt 179 _ rfl J 1 aZ 259 _ (qhM v sa pe) (0,0) _ g0 Tryz.underlying179 rfl (by kernel_rfl) (qiM _ _ _ _ _ _ _ _) (Y _ _ Br rfl)
  ·intro A x W G S V o _ K Y;have bn:=gv G o 3 24;have bk:=gv G o 7 28;clear o G;go_simp
   refine(aR.out W (al.out.trans (S.mono (by omega)))).mono ?_;rintro e w' ⟨⟨r,rfl,ho⟩,I⟩;exact Y _ _ I ⟨r,rfl,ownsRow_le ho V⟩
  ·intro A x W G S V o _ K Y;have ba:(fun u W=> ∃r,u= .tuple #[r,.int .i64 0]/\W.ownsRow X.heap.size 5 1 r 32 (U.map qp)) (x 29) W:=o ⟨8,.data⟩ (by simp) rfl _ rfl;have a9:A.tmps.getD 29 undef=x 29:=G.1 29 (by decide);clear o G;go_simp
   exact Y _ _ Br (a9▸ba)
  ·intro A x W G S V o _ K Y;have ai:(fun u W=> ∃r,u= .tuple #[r,.int .i64 0]/\W.ownsRow X.heap.size 5 1 r 32 (U.map qp)) (x 20) W:=o ⟨9,.data⟩ (by simp) rfl _ rfl;have aj:A.tmps.getD 20 undef=x 20:=G.1 20 (by decide);clear o G;obtain⟨r,er,hr⟩:=ai;rw[er]at aj;go_simp
   exact Y _ _ Br hr
  ·intro A x W G S V o _ K Y;have ai:(fun u W=> ∃r,u= .tuple #[r,.int .i64 0]/\W.ownsRow X.heap.size 5 1 r 32 (U.map qp)) (x 20) W:=o ⟨9,.data⟩ (by simp) rfl _ rfl;have aj:A.tmps.getD 20 undef=x 20:=G.1 20 (by decide);clear o G;obtain⟨r,er,hr⟩:=ai;rw[er]at aj;go_simp
   exact Y _ _ BR rfl
  ·intro A x W G S V o _ K Y;have aY:(fun u W=>W.ownsRow X.heap.size 5 1 u 32 (U.map qp)) (x 30) W:=o ⟨10,.data⟩ (by simp) rfl _ rfl;have a6:A.tmps.getD 30 undef=x 30:=G.1 30 (by decide);clear o G;go_simp
   exact Y _ _ Br (a6▸aY)
 intro x W S V aS;obtain⟨aw,aL,aC,e4, -⟩:=aS;change (fun u W=> ∃r,u= .tuple #[r,.int .i64 0]/\W.ownsRow X.heap.size 5 1 r 32 (U.map qp)) (x 29) W at aw
 change (fun u W=> ∃r,u= .tuple #[r,.int .i64 0]/\W.ownsRow X.heap.size 5 1 r 32 (U.map qp)) (x 20) W at aL
 change (fun u W=>W.ownsRow X.heap.size 5 1 u 32 (U.map qp)) (x 30) W at aC
 change (fun u W=>W.ownsRow X.heap.size 5 1 u 32 (U.map qp)) (x 4) W at e4
 refine qw ?_;simp only[QG,Act.put,Ls];have aA:=yj e4;have aF:Below q w W:=al.out.trans (S.mono (by omega));have g0:=qf af.out S;have r0:=qf R0.out S;have r1:=qf R1.out S;have ar:W.cell? ⟨J,0,none⟩=some (.int .i64 2):=qd g0 0;have ae:J<W.heap.size:=(Ai g0).1;have aX:q+2<=W.heap.size:=by have:=S.size;omega
 have au:=hid r0;have aE:=hid r1;have ax:=hid aF;have aH:=hid aA;clear aw aL aC e4 aA aF g0 r0 r1 S V R0 R1 al af a8;go_wp2_with fail
 refine(qf5 U _ _ aH.out aQ.out aT.out).mono ?_;rintro e w1 ⟨rfl,ad⟩;rw[aV.out];have aW:=ad.size;have k0:=qf au.out ad;have k1:=qf aE.out ad;have av:Below q w w1:=ax.out.trans (ad.mono (by omega));have K0:=hid k0;have K1:=hid k1;have az:=hid av;clear k0 k1 av ad au aE ax aH ar ae;go_upto_region 13 with((with_reducible show wpList _ _ _ (Oper.mk none (Op.store 288 _ _) _ _ _ _::_) _ _);refine wpList_store_row rfl 288 _ _ rfl w1.heap.size (qj .u32 H) rfl rfl 288 _ (Wn _ _) (by rw[qg,O.out.1];kernel_rfl) (by rw[qg,O.out.1];rfl) qA ?_)
 refine qm ?_;intro W7 ac;obtain⟨bv,aq⟩:=Ex w1.heap.size;have m0:W7.heap[q]? =some (.cells Ka 257 (0,0)):=by rw[ac];exact(setRow_other (w1.alloc _) _ _ _ (by omega)).trans ((Bh _ _ _ (by omega)).trans K0.out)
 have m1:W7.heap[q+1]? =some (.cells (qj .u64 (QA H (qN Z8) 0)) 257 (0,0)):=by rw[ac];exact(setRow_other (w1.alloc _) _ _ _ (by omega)).trans ((Bh _ _ _ (by omega)).trans K1.out)
 have m2:W7.heap[bv]? =some (.cells (qj .u32 H) 288 (0,0)):=by rw[ac,<-aq];exact setRow_heap _ _ _ _ _ _ (Wn _ _)
 have aB:Below q w W7:=by rw[ac];exact below_setRow (az.out.alloc (by omega) _) (by omega) _
 have bf:bv<W7.heap.size:=(Ai m2).1;have be:q+2<=bv:=by omega
 rw[aq];have M0:=hid m0;have M1:=hid m1;have M2:=hid m2;have a4:=hid aB;clear ac aq m0 m1 m2 aB K0 K1 az aW aX;go_wp2_with fail
 go_loopw [11] (fun i wr=> ∃j:Nat,i= .int .i64 j/\j<=8/\wr.heap[q+1]? =some (.cells (qj .u64 (QA H (qN Z8) j)) 257 (0,0))/\But (q+1) W7 wr) (fun i _=>8 - (intOf i).toNat)
 case atStart=>exact⟨0,rfl,by omega,M1.out,But.refl _ _⟩
 case round=>
  obtain⟨j,rfl,hj,Z,I⟩:=hrel;have aU:=hid Z;have HB:=hid I;have bh:bv<wr.heap.size:=by have:=I.size;omega
  have ap:(qN Z8).length=16:=rfl;by_cases aO:j<8
  case pos=>
   have c0:wr.cell? ⟨bv,j,none⟩=some (.int .u32 (wd H j)):=by rw[qd ((I.block bv (by omega) (by omega)).trans M2.out) j,YJ (by rw[O.out.1];omega)]
   have a7:(QA H (qN Z8) j).length=16:=by rw[Yx (by rw[O.out.1];omega) (by omega),ap]
   have c1:wr.cell? ⟨q+1,j,none⟩=some (.int .u64 (wd (QA H (qN Z8) j) j)):=by rw[qd Z j,YJ (by omega)]
   have f1:=frozen_of_row wr (q+1) j _ _ Z;have ao:=heap_setCell_same wr (q+1) j _ _ (.int .u64 (wd H j)) Z;rw[Qk,zZ (by rw[O.out.1];omega) (by omega)]at ao;have ak:=yK O.out aO;have bj:IntKind.u64.wrap (wd H j)=wd H j:=u64_wrap_id _ ak.1 (by have:=ak.2;simp at this;omega);have bc:=hid ao;have bl:(j:Int)<8:=by omega
   generalize wd (QA H (qN Z8) j) j=zo at c1;generalize wd H j=zj at*;obtain⟨bg,bd⟩:=ak;clear ao a7 Z I ap;go_wp2
   exact⟨⟨j+1,rfl,by omega,bc.out,HB.out.set _ _⟩,by simp[intOf];omega⟩
  obtain rfl:j=8:=by omega
  rw[qad O.out.1 rfl]at Z;have n1:=(I.block q (by omega) (by omega)).trans M0.out;have a3:Below q w wr:=a4.out.trans (I.below (by omega) (by omega));have ab:=Qh (by decide) O.out;have bi:q+1<wr.heap.size:=by omega
  clear I ap hj aO aU;go_wp2_with (first|((with_reducible show wpList _ _ _ (Oper.mk (some 67) _ _ _ _ _::_) _ _);refine wpList_load_row rfl 257 _ rfl (q+1) rfl _ _ _ _ Z Tryz.underlying257 rfl (by rw[qg,ab.1];kernel_rfl) ?_)|((with_reducible show wpList _ _ _ (Oper.mk none (Op.store 257 _ _) _ _ _ _::_) _ _);refine wpList_store_row rfl 257 _ _ rfl q (qj .u64 (qN H)) rfl rfl 257 _ n1 (by rw[qg,ab.1];kernel_rfl) (by rw[qg,ab.1];rfl) qA ?_))
  exact Bp (results_cell_row rfl _ _ q 257 _ _ _ rfl (setRow_heap _ _ _ _ _ _ n1) Tryz.underlying257 rfl (by rw[qg,ab.1];kernel_rfl)) rfl ⟨rfl,by rw[aa];exact below_setRow a3 Nl _⟩
structure TreeOk (t:TreeV)(kz z1 z2:List Int)(w:World):Prop where
 v:t.validE=0
 l:0<=t.l/\t.l<=4294967295
 k:Hold w (.slice t.ka t.kl t.kc) kz
 s:Hold w (.slice t.sa t.sl t.sc) z1
 p:Hold w (.slice t.pa t.pl t.pc) z2
theorem TreeOk.below {t:TreeV}{w:World}(h:TreeOk t kz z1 z2 w)(o:Below w.heap.size w w'):TreeOk t kz z1 z2 w':=⟨h.v,h.l,h.k.below o,h.s.below o,h.p.below o⟩
theorem yk {w:World}(h:Hold w (.slice a n c) zs):zs.length=n:=by
 obtain⟨q,o,e, -, -⟩:=h.slice;simp only[Value.slice.injEq]at e;exact e.2.1.symm
def TreeV.node (t:TreeV)(kz z1 z2:List Int)(row i:Nat)(la rt:Bool)(d:List Int):List Int:=Jz t.big (t.blk z1 z2 row i) (yV row kz) la (t.outN rt) d
theorem yF (t:TreeV)(kz z1 z2:List Int)(row i:Nat)(la rt:Bool)(d:List Int): ∀a∈t.node kz z1 z2 row i la rt d,0<=a/\a<=255:=fun a o=>qe5 _ _ _ _ a (List.mem_of_mem_take o)
theorem J5 (big:Bool)(q kz ds:List Int)(la:Bool)(o:Int)(D I G:Value)(w:World)(S:Hold w D q)(V:Hold w I kz)(X:Hold w G ds)(O:(ds.length:Int)<=140737488355200)(J:okD big false q)(r:YN q kz=false)(U:1<=o/\o<=(mB big:Nat)):
  Calls Tryz.prog 64 #[.agg (Yf (kB big) D I la o G)] w fun e w'=>qcC big q kz la o ds w e w':=by
 cases big
 ·exact qgQ q kz ds la o D I G w S V X O J r U
 ·exact qic q kz ds la o D I G w S V X O J r U
theorem TreeOk.okD {t:TreeV}{w:World}(h:TreeOk t kz z1 z2 w)(q:row<=255)(I:at_<281474976710656):
  Go.Proofs.YtahenngmaoellaaGreat.okD t.big false (t.blk z1 z2 row at_)/\YN (t.blk z1 z2 row at_) (yV row kz)=false/\(∀z∈t.blk z1 z2 row at_,0<=z/\z<=255)/\ ∀rt:Bool,1<=t.outN rt/\t.outN rt<=(mB t.big:Nat):=by
 have o:=qn h.v;have J:=QW h.v;have S:=yk h.s;have V:=yk h.p;have O:=yk h.k;obtain⟨G,D⟩:=qg9 (z1:=z1) (z2:=z2) (jQ h.v h.l q I) (by omega) (by omega);refine⟨G,?_,ZA h.s.1 h.p.1,fun rt=>?_⟩
 ·have r:qo (t.blk z1 z2 row at_) 1=(t.kl:Int):=D;unfold YN yV;rw[r];refine decide_eq_false ?_;split
  ·omega
  ·simp
 ·obtain⟨-,d1,d2,X,U, -⟩:=o
  cases rt
  ·show 1<=t.i/\t.i<=_;omega
  ·show 1<=t.d/\t.d<=_;omega
theorem qjU {t:TreeV}{w:World}(h:TreeOk t kz z1 z2 w)(I:row<=255)(ha:at_<281474976710656)(la rt:Bool)(ds:List Int)(D q r:Value)(W:World)(b:Nat)
  (O:W.ownsRow b 5 1 q (mB t.big) ((t.blk z1 z2 row at_).map qp)) (U:W.ownsRow b 5 1 r (yV row kz).length ((yV row kz).map qp)) (S:Hold W D ds) (hl:ds.length<=1073741824):
  Calls Tryz.prog 64 #[.agg (Yf t.k q r la (t.outN rt) D)] W fun e w'=> ∃u,e= .returned (.tuple #[u,.int .i64 0])/\OwnB W.heap.size w' u (t.node kz z1 z2 row at_ la rt ds)/\Below W.heap.size W w':=by
 obtain⟨Z,V,J,h4⟩:=h.okD I ha;have G: ∀z∈yV row kz,0<=z/\z<=255:=fun z o=>by
  unfold yV at o;split at o
  ·exact h.k.1 z o
  ·cases o
 rw[<-yX h.v];refine(J5 t.big _ _ ds la _ q r D W (Qf O J) (Qf U G) S (by omega) Z V (h4 rt)).mono ?_;rintro e w' ⟨⟨u,rfl,X⟩,Y⟩
 exact⟨u,rfl,⟨yF t kz z1 z2 row at_ la rt ds,X⟩,Y⟩
def TreeV.rowZ (t:TreeV)(kz z1 z2:List Int)(row:Nat)(rt:Bool)(L:List (List Int))(m:Nat):List (List Int):=(List.range m).map fun i=>t.node kz z1 z2 row i (decide (i+1=L.length)) rt (qC L i)
theorem zN (t:TreeV)(kz z1 z2:List Int)(row:Nat)(rt:Bool)(L:List (List Int))(m:Nat):t.rowZ kz z1 z2 row rt L (m+1)=t.rowZ kz z1 z2 row rt L m++[t.node kz z1 z2 row m (decide (m+1=L.length)) rt (qC L m)]:=by simp[TreeV.rowZ,List.range_succ]
theorem TreeV.rowZ_length (t:TreeV)(kz z1 z2:List Int)(row:Nat)(rt:Bool)(L:List (List Int))(m:Nat):(t.rowZ kz z1 z2 row rt L m).length=m:=by simp[TreeV.rowZ]
theorem qcq (zs:List Int)(o:1<=n):1<=(QH n zs).length/\(QH n zs).length<=zs.length+1:=by
 unfold QH;split
 ·exact⟨Nat.le_refl _,by simp⟩
 ·rename_i h;have q:=List.length_pos_iff.2 h;rw[Qx];have:=Yy (n:=zs.length) o
  have:=ZQ (d:=n) (show 1<=zs.length from q)
  omega
theorem qfy (zs:List Int)(i:Nat):(qC (QH n zs) i).length<=zs.length:=by
 unfold QH;split
 ·cases i<;>simp[qC]
 ·unfold qC Zb;rw[Lg,List.getElem?_map]
  cases(List.range (qP zs.length n))[i]? with
  | none=>simp
  | some j=>exact(qaz n zs j).length_le
end Go.Proofs.YtahenngmaoellaaGreat
namespace Go.Proofs.YtahenngmaoellaaGreat
open Go.ChangeShapes Go.WideShapes Go.ChangeAt Go.RowKit Go.Joins Go.Shelf Go.Maps
open Go.Lib (hid)
variable{kz z1 z2 z:List Int}{row n B b T s:Nat}{L:List (List Int)}{v v' x:Value}{w0 w' W W':World}{c xs:List Value}{ops:Array Oper}{o:Oper}{Q:Exit->Act->World->Prop}
def TreeV.lvlZ (t:TreeV)(kz z1 z2:List Int)(L0:List (List Int)):Nat->List (List Int)
 | 0=>L0
 | r+1=>t.rowZ kz z1 z2 (r+1) (t.rootZ (r+1) (t.lvlZ kz z1 z2 L0 r).length) (t.upZ (r+1) (t.lvlZ kz z1 z2 L0 r)) (t.upZ (r+1) (t.lvlZ kz z1 z2 L0 r)).length
def TreeV.topAt (t:TreeV)(kz z1 z2:List Int)(L0:List (List Int))(R:Nat):Prop:=1<=R/\t.rootZ R (t.lvlZ kz z1 z2 L0 (R - 1)).length=true/\ ∀q,1<=q->q<R->t.rootZ q (t.lvlZ kz z1 z2 L0 (q - 1)).length=false
theorem qbu {t:TreeV}{q:List (List Int)}{R S:Nat}(h:t.topAt kz z1 z2 q R)(k:t.topAt kz z1 z2 q S):R=S:=by
 rcases Nat.lt_trichotomy R S with o|o|o
 ·have:=k.2.2 R h.1 o;rw[h.2.1]at this;cases this
 ·exact o
 ·have:=h.2.2 S k.1 o;rw[k.2.1]at this;cases this
theorem qaT {t:TreeV}(h:(row:Int)=t.p - 1):t.rootZ row n=true:=decide_eq_true (.inr (.inl h))
theorem zX {t:TreeV}(h:t.validE=0)(o:t.rootZ row n=false):2<=t.fn/\t.fn<n/\t.fn<=255:=by
 have q:=(qn h).2.2.2.2.2.1;have r: ¬(t.f=0\/(row:Int)=t.p - 1\/(n:Int)<=t.f):=of_decide_eq_false o;unfold TreeV.fn;omega
theorem ZG {t:TreeV}(h:t.validE=0)(row:Nat)(q:L≠[]):1<=(t.upZ row L).length/\(t.upZ row L).length<=L.length:=by
 have o:=List.length_pos_iff.2 q;unfold TreeV.upZ
 cases hr:t.rootZ row L.length with
 | true=>exact⟨Nat.le_refl _,o⟩
 | false=>
  have:=zX h hr
  rw[if_neg (by simp),Qm];exact⟨ZQ o,Yy (by omega)⟩
theorem jP (t:TreeV)(row:Nat)(L:List (List Int))(i:Nat):(qC (t.upZ row L) i).length<=L.flatten.length:=by
 unfold TreeV.upZ;split
 ·cases i<;>simp[qC]
 ·unfold qC ZN;rw[Lg,List.getElem?_map]
  cases(List.range (qP L.length t.fn))[i]? with
  | none=>simp
  | some j=>exact Y8 (qaz t.fn L j)
theorem qcz (t:TreeV)(kz z1 z2:List Int)(row i:Nat)(la rt:Bool)(d:List Int):(t.node kz z1 z2 row i la rt d).length<=64:=by
 have o:(Zc t.big (h0Z t.big (t.blk z1 z2 row i)) (yH (bB t.big) (yV row kz)++d) la).length=mB t.big:=Zs _ _ _ _;have q:mB t.big<=64:=by cases t.big<;>decide
 unfold TreeV.node Jz;rw[List.length_take];omega
theorem jd (t:TreeV)(kz z1 z2:List Int)(row:Nat)(rt:Bool)(L:List (List Int))(m:Nat): ∀z∈t.rowZ kz z1 z2 row rt L m,z.length<=64:=fun z o=>by
 obtain⟨i, -,rfl⟩:=List.mem_map.1 o;exact qcz ..
theorem zq: ∀{L:List (List Int)},(∀z∈L,z.length<=64)->L.flatten.length<=64*L.length
 | [],_=>Nat.le_refl _
 | z::L,h=>by
  have q:=h z (List.mem_cons_self ..);have r:=zq (L:=L) (fun y o=>h y (List.mem_cons_of_mem _ o));simp only[List.flatten_cons,List.length_append,List.length_cons];omega
theorem Qo {t:TreeV}(h:t.validE=0)(kz z1 z2:List Int){o:List (List Int)}(q:o≠[])(D: ∀z∈o,z.length<=64): ∀r,t.lvlZ kz z1 z2 o r≠[]/\(t.lvlZ kz z1 z2 o r).length<=o.length/\ ∀z∈t.lvlZ kz z1 z2 o r,z.length<=64
 | 0=>⟨q,Nat.le_refl _,D⟩
 | r+1=>by
  obtain⟨I,U,S⟩:=Qo h kz z1 z2 q D r;have J:=ZG h (r+1) I;have O:(t.lvlZ kz z1 z2 o (r+1)).length=(t.upZ (r+1) (t.lvlZ kz z1 z2 o r)).length:=TreeV.rowZ_length ..;exact⟨List.length_pos_iff.1 (by omega),by omega,fun z G=>jd _ _ _ _ _ _ _ _ z G⟩
attribute [local go_sem] Oper.semAt_some
theorem ListO.get {w:World}(h:ListO B w v L){i:Nat}(hi:i<L.length): ∃g o x,v= .slice (some ⟨g,0,none⟩) L.length o/\g<w.heap.size/\w.cell? ⟨g,i,none⟩=some x/\OwnB B w x (qC L i):=by
 obtain⟨vs,r,I⟩:=h;have O:vs.length=L.length:=by have:=r.1;simpa using this
 rcases r.2 with⟨rfl,U⟩|⟨g,o,q,rfl,V,D,J,X,S,G⟩
 ·omega
 ·refine⟨g,o,vs.getD i undef,rfl,(Ai D).1,?_,I i hi⟩;rw[qd D i];have e:q.toList[i]? =vs[i]? :=by rw[<-G,List.getElem?_take,if_pos (by omega)]
  rw[<-Array.getElem?_toList,e,Lg,List.getElem?_eq_getElem (by omega)];rfl
structure CallS where
 k:Int
 bs:List Int
 kz:List Int
 la:Bool
 o:Int
 ds:List Int
def CallS.zero:CallS:=⟨0,[],[],false,0,[]⟩
def KeepH (w0:World)(B:Nat)(w:World)(v:Value)(z:List Int):Prop:=OwnB B w v z\/Hold w0 v z/\Below w0.heap.size w0 w
theorem KeepH.hold {w:World}(h:KeepH w0 B w v z):Hold w v z:=by
 rcases h with h|⟨h,o⟩
 ·exact h.hold
 ·exact h.below o
theorem KeepH.kb {w:World}(h:KeepH w0 B w v z)(q:w0.heap.size<=b)(k:KB b w w'):KeepH w0 B w' v z:=by
 rcases h with h|⟨h,o⟩
 ·exact .inl (h.kb k)
 ·exact .inr ⟨h,o.trans (k.below.mono q)⟩
theorem KeepH.le {w:World}(h:KeepH w0 B w v z)(o:b<=B):KeepH w0 b w v z:=by
 rcases h with h|h
 ·exact .inl (h.le o)
 ·exact .inr h
def CallAt (w0:World)(B:Nat)(w:World)(s:CallS)(c:List Value):Prop:=
 ∃a1 n1 c1 a2 n2 c2 a3 n3 c3,c=[.int .i64 s.k,.slice a1 n1 c1,.slice a2 n2 c2,.bool s.la,.int .i64 s.o,.slice a3 n3 c3]/\OwnB B w (.slice a1 n1 c1) s.bs/\KeepH w0 B w (.slice a2 n2 c2) s.kz/\KeepH w0 B w (.slice a3 n3 c3) s.ds
theorem CallAt.kb {w:World}{s:CallS}(h:CallAt w0 B w s c)(o:w0.heap.size<=b)(k:KB b w w'):CallAt w0 B w' s c:=by
 obtain⟨a1,D,c1,a2,q,c2,J,I,S,e,O,G,r⟩:=h;exact⟨a1,D,c1,a2,q,c2,J,I,S,e,O.kb k,G.kb o k,r.kb o k⟩
theorem CallAt.le {w:World}{s:CallS}(h:CallAt w0 B w s c)(o:b<=B):CallAt w0 b w s c:=by
 obtain⟨a1,D,c1,a2,q,c2,J,I,S,e,O,G,r⟩:=h;exact⟨a1,D,c1,a2,q,c2,J,I,S,e,O.le o,G.le o,r.le o⟩
def CallsO (w0:World)(B:Nat)(w:World)(v:Value)(S:List CallS):Prop:=
 ∃cs:List (List Value),cs.length=S.length/\w.ownsRow B 73 6 v S.length cs.flatten/\ ∀i,i<S.length->CallAt w0 B w (S.getD i .zero) (cs.getD i [])
theorem CallsO.nil (w0:World)(B:Nat)(w:World):CallsO w0 B w (.slice none 0 0) []:=⟨[],rfl,Wo _ _ _ _,fun i hi=>by simp at hi⟩
theorem CallsO.kb {w:World}{S:List CallS}(h:CallsO w0 B w v S)(O:w0.heap.size<=b)(k:KB b w w')(J: ∀g,v.ownBlock=some g->w'.heap[g]? =w.heap[g]?):CallsO w0 B w' v S:=by
 obtain⟨cs,I,D,V⟩:=h;refine⟨cs,I,⟨D.1,?_⟩,fun i hi=>(V i hi).kb O k⟩;rcases D.2 with o|⟨g,r,q,rfl,U,o,G⟩
 ·exact .inl o
 ·exact .inr ⟨g,r,q,rfl,U,by rw[J g rfl];exact o,G⟩
theorem qT {w:World}(q:w.ownsRow B T s v n xs): ∀g,v.ownBlock=some g->g<w.heap.size:=by
 intro g o;rcases q.2 with⟨rfl, -⟩|⟨I,G,D,rfl, -,r, -⟩
 ·cases o
 ·simp only[Value.ownBlock,Option.some.injEq]at o;subst o;exact(Ai r).1
theorem CallsO.below {w:World}{S:List CallS}(h:CallsO w0 B w v S)(o:w0.heap.size<=w.heap.size)(k:Below w.heap.size w w'):CallsO w0 B w' v S:=by
 refine h.kb o (KB.of_below k Nl) fun g r=>?_
 obtain⟨cs, -,q, -⟩:=h;exact k.block g (qT q g r)
theorem CallsO.le {w:World}{S:List CallS}(h:CallsO w0 B w v S)(o:b<=B):CallsO w0 b w v S:=by
 obtain⟨cs,q,D,r⟩:=h;exact⟨cs,q,ownsRow_le D o,fun i hi=>(r i hi).le o⟩
theorem qX {α:Type}(L:List α)(x d:α)(i:Nat):(L++[x]).getD i d=if i<L.length then L.getD i d else if i=L.length then x else d:=by
 simp only[Lg];by_cases h:i<L.length
 ·rw[List.getElem?_append_left h,if_pos h]
 ·rw[if_neg h,List.getElem?_append_right (by omega)];by_cases o:i=L.length
  ·subst o;simp
  ·rw[if_neg o,List.getElem?_eq_none (by simp;omega)];rfl
theorem CallsO.snoc {w:World}{S:List CallS}{s:CallS}{cs:List (List Value)}(G: ∀i,i<S.length->CallAt w0 B w (S.getD i .zero) (cs.getD i []))(o:cs.length=S.length)(I:CallAt w0 B w s c)
  (D:w'.ownsRow B 73 6 v' (S.length+1) (cs.flatten++c)) (q:w0.heap.size<=B) (r:KB B w w'):CallsO w0 B w' v' (S++[s]):=by
 refine⟨cs++[c],by simp[o],by simpa using D,fun i hi=>?_⟩;simp only[List.length_append,List.length_singleton]at hi;rw[qX,qX,o];by_cases h:i<S.length
 ·rw[if_pos h,if_pos h];exact(G i h).kb q r
 ·rw[if_neg h,if_neg h,if_pos (by omega),if_pos (by omega)];exact I.kb q r
theorem Yt {Z Y r G X s2 V O:Nat}{I J:Value}{x1 U:List Value}(h1:W.ownsRow Z r X I V x1)(D:W.ownsRow Y G s2 J O U)(hT:r≠G)(h:Spare (fun k=>I.ownBlock≠some k) W W'): ∀g,J.ownBlock=some g->W'.heap[g]? =W.heap[g]? :=by
 intro g o;refine h.block g (qT D g o) fun e=>?_
 rcases h1.2 with⟨rfl, -⟩|⟨g1,k1,c1,rfl, -,S, -⟩
 ·cases e
 rcases D.2 with⟨rfl, -⟩|⟨g2,k2,c2,rfl, -,q, -⟩
 ·cases o
 simp only[Value.ownBlock,Option.some.injEq]at e o;subst e o;rw[S]at q;simp only[Option.some.injEq,Obj.cells.injEq]at q;exact hT q.2.1
theorem ya (h:W.ownsRow B T s v n xs)(G: ∀g,v.ownBlock=some g->W'.heap[g]? =W.heap[g]?):W'.ownsRow B T s v n xs:=by
 refine⟨h.1,?_⟩;rcases h.2 with o|⟨g,r,q,rfl,D,o,I⟩
 ·exact .inl o
 ·exact .inr ⟨g,r,q,rfl,D,by rw[G g rfl];exact o,I⟩
theorem Q8 (h:W.ownsRow B T s v n xs): ∃a n c,v= .slice a n c:=by
 rcases h.2 with⟨rfl, -⟩|⟨g,q,o,rfl, -⟩
 ·exact⟨_,_,_,rfl⟩
 ·exact⟨_,_,_,rfl⟩
def LevO (w0:World)(B:Nat)(w:World)(v:Value)(SS:List (List CallS)):Prop:=
 ∃vs:List Value,w.ownsRow B 115 1 v SS.length vs/\ ∀i,i<SS.length->CallsO w0 B w (vs.getD i undef) (SS.getD i [])
theorem LevO.nil (w0:World)(B:Nat)(w:World):LevO w0 B w (.slice none 0 0) []:=⟨[],Wo _ _ _ _,fun i hi=>by simp at hi⟩
theorem LevO.below {w:World}{o:List (List CallS)}(h:LevO w0 B w v o)(q:w0.heap.size<=w.heap.size)(k:Below w.heap.size w w'):LevO w0 B w' v o:=by
 obtain⟨vs,G,D⟩:=h;exact⟨vs,qi G (fun g _ r=>k.block g r),fun i hi=>(D i hi).below q k⟩
theorem LevO.le {w:World}{o:List (List CallS)}(h:LevO w0 B w v o)(q:b<=B):LevO w0 b w v o:=by
 obtain⟨vs,D,r⟩:=h;exact⟨vs,ownsRow_le D q,fun i hi=>(r i hi).le q⟩
theorem LevO.snoc {w:World}{o:List (List CallS)}{S:List CallS}{vs:List Value}(q:w.ownsRow B 115 1 v o.length vs)(X: ∀i,i<o.length->CallsO w0 B w (vs.getD i undef) (o.getD i []))(G:CallsO w0 B w x S)
  (D:w'.ownsRow B 115 1 v' (o.length+1) (vs++[x])) (V:w0.heap.size<=B) (J:KB B w w') (r:Spare (fun k=>v.ownBlock≠some k) w w'):LevO w0 B w' v' (o++[S]):=by
 have I:vs.length=o.length:=by have:=q.1;simpa using this
 have one: ∀u S,CallsO w0 B w u S->CallsO w0 B w' u S:=fun u S h=>by
  refine h.kb V J fun g U=>?_
  obtain⟨cs, -,O, -⟩:=h;exact Yt q O (by decide) r g U
 refine⟨vs++[x],by simpa using D,fun i hi=>?_⟩;simp only[List.length_append,List.length_singleton]at hi;rw[qX,qX,I];by_cases h:i<o.length
 ·rw[if_pos h,if_pos h];exact one _ _ (X i h)
 ·rw[if_neg h,if_neg h,if_pos (by omega),if_pos (by omega)];exact one _ _ G
theorem qaH:(Tryz.prog.info? 73).map (fun i=>(i.zero,i.size,i.bytes))=some (some (.agg Ke),6,96):=by kernel_rfl
theorem qcj:(Tryz.prog.info? 115).map (fun i=>(i.zero,i.size,i.bytes))=some (some (.slice none 0 0),1,24):=by kernel_rfl
theorem Jo {D:List Oper}{q:Act}{w:World}(Z:o.guard=none)(x:Operand)(Y:o.op= .buildSlice 115 1 #[(0,x)])(U O I J S G:Value)(hx:q.eval x= .agg #[U,O,I,J,S,G])
  (h:wpList Tryz.prog ops Q D (q.put o.dst (.slice (some ⟨w.heap.size,0,none⟩) 1 1)) (w.alloc (.cells #[U,O,I,J,S,G] 73))):wpList Tryz.prog ops Q (o::D) q w:=by
 obtain⟨ib,X,V,r, -⟩:=info_parts qaH;exact wpList_buildSlice Z 115 73 1 _ Y #[U,O,I,J,S,G] ib _ Tryz.underlying115 X V (by rw[r];decide) (by rw[r];decide) (by rw[r,show Array.range (1*6)= #[0,1,2,3,4,5] by decide];simp[hx,Instr.fill,Value.cells]) h
theorem qcH {r:List Oper}{D:Act}{w:World}(U:o.guard=none)(x:Operand)(O:o.op= .buildSlice 118 1 #[(0,x)])(a:Option Addr)(n k:Nat)(S:D.eval x= .slice a n k)
  (h:wpList Tryz.prog ops Q r (D.put o.dst (.slice (some ⟨w.heap.size,0,none⟩) 1 1)) (w.alloc (.cells #[.slice a n k] 115))):wpList Tryz.prog ops Q (o::r) D w:=by
 obtain⟨J,G,I,q, -⟩:=info_parts qcj;exact wpList_buildSlice U 118 115 1 _ O #[.slice a n k] J _ Tryz.underlying118 G I (by rw[q];decide) (by rw[q];decide) (by rw[q,show Array.range (1*1)= #[0] by decide];simp[S,Instr.fill,Value.cells]) h
def TreeV.callS (t:TreeV)(kz z1 z2:List Int)(row i:Nat)(la rt:Bool)(d:List Int):CallS:=⟨t.k,t.blk z1 z2 row i,yV row kz,la,t.outN rt,d⟩
def TreeV.rowC (t:TreeV)(kz z1 z2:List Int)(row:Nat)(rt:Bool)(L:List (List Int))(m:Nat):List CallS:=(List.range m).map fun i=>t.callS kz z1 z2 row i (decide (i+1=L.length)) rt (qC L i)
theorem zO (t:TreeV)(kz z1 z2:List Int)(row:Nat)(rt:Bool)(L:List (List Int))(m:Nat):t.rowC kz z1 z2 row rt L (m+1)=t.rowC kz z1 z2 row rt L m++[t.callS kz z1 z2 row m (decide (m+1=L.length)) rt (qC L m)]:=by simp[TreeV.rowC,List.range_succ]
theorem qV (t:TreeV)(kz z1 z2:List Int)(row:Nat)(rt:Bool)(L:List (List Int))(m:Nat):(t.rowC kz z1 z2 row rt L m).length=m:=by simp[TreeV.rowC]
def TreeV.leafZ (t:TreeV)(kz z1 z2 zs:List Int):List (List Int):=t.rowZ kz z1 z2 0 false (QH t.ln zs) (QH t.ln zs).length
theorem Qc {t:TreeV}(h:t.validE=0)(r:0<=t.l/\t.l<=4294967295)(kz z1 z2 zs:List Int):t.leafZ kz z1 z2 zs≠[]/\(t.leafZ kz z1 z2 zs).length<=zs.length+1/\ ∀z∈t.leafZ kz z1 z2 zs,z.length<=64:=by
 have o:1<=t.ln:=by
  have:=(qn h).2.2.2.2.2.2.2.2.1
  unfold TreeV.ln;omega
 have D:=qcq zs o;have G:(t.leafZ kz z1 z2 zs).length=(QH t.ln zs).length:=TreeV.rowZ_length ..;exact⟨List.length_pos_iff.1 (by omega),by omega,fun z q=>jd _ _ _ _ _ _ _ _ z q⟩
structure Tend (F:Nat->Prop)(w w':World):Prop where
 sp:Spare (fun k=> ¬F k) w w'
 bytes: ∀(k:Nat) (c:Array Value),w.heap[k]? =some (.cells c 5 (0,0))->w'.heap[k]? =some (.cells c 5 (0,0))
theorem OwnB.tend {w:World}(h:OwnB B w x z)(D: ∀(k:Nat) (c:Array Value),w.heap[k]? =some (.cells c 5 (0,0))->w'.heap[k]? =some (.cells c 5 (0,0))):OwnB B w' x z:=by
 refine⟨h.1,?_⟩;rcases h.2 with h|⟨g,q,o,e,r,I,G⟩
 ·exact .inl h
 ·exact .inr ⟨g,q,o,e,r,D _ _ I,G⟩
theorem ListO.tend {w:World}(h:ListO B w v L)(D: ∀(k:Nat) (c:Array Value),w.heap[k]? =some (.cells c 5 (0,0))->w'.heap[k]? =some (.cells c 5 (0,0)))(o: ∀g,v.ownBlock=some g->w'.heap[g]? =w.heap[g]?):ListO B w' v L:=by
 obtain⟨vs,r,q⟩:=h;exact⟨vs,ya r o,fun i hi=>(q i hi).tend D⟩
theorem ListO.block_lt {w:World}(h:ListO B w v L): ∀g,v.ownBlock=some g->g<w.heap.size:=by
 obtain⟨vs,o, -⟩:=h;exact qT o
structure Seer (t:TreeV)(kz z1 z2:List Int)(w0:World)(fk bl:Nat)(I:List (List CallS)->List CallS->(Nat->Prop)->World->Prop):Prop where
 lt: ∀{done cur F w},I done cur F w-> ∀k,F k->w0.heap.size<=k/\k<w.heap.size
 keep: ∀{done cur F w w'},I done cur F w->Below w0.heap.size w w'->(∀k,F k->w'.heap[k]? =w.heap[k]?)->(∀(k:Nat) (c:Array Value),w.heap[k]? =some (.cells c 5 (0,0))->w'.heap[k]? =some (.cells c 5 (0,0)))->I done cur F w'
 next: ∀{done cur F w},cur≠[]->I done cur F w->I (done++[cur]) [] F w
 see: ∀{done cur F w} {row i:Nat} {la rt:Bool} {d:List Int} {bv kv dv:Value},I done cur F w->done.length=row->row<=255->i<=8388608->(∀l∈done,l.length<=8388608)->cur.length<=8388608->Below w0.heap.size w0 w->
  w.ownsRow w0.heap.size 5 1 bv (mB t.big) ((t.blk z1 z2 row i).map qp)->w.ownsRow w0.heap.size 5 1 kv (yV row kz).length ((yV row kz).map qp)->OwnB w0.heap.size w dv d->d.length<=1073741824->
  Calls Tryz.prog fk #[.agg (Yf t.k bv kv la (t.outN rt) dv),.int .i64 row,.pointer (some ⟨bl,0,none⟩)] w fun e w'=> ∃u F',e= .returned u/\OwnB w.heap.size w' u (t.node kz z1 z2 row i la rt d)/\(∀k,F' k->F k\/w.heap.size<=k)/\I done (cur++[t.callS kz z1 z2 row i la rt d]) F' w'/\Tend F w w'
def TreeV.dataR (t:TreeV)(kz z1 z2 zs:List Int):Nat->List (List Int)
 | 0=>QH t.ln zs
 | r+1=>t.upZ (r+1) (t.lvlZ kz z1 z2 (t.leafZ kz z1 z2 zs) r)
def TreeV.rtR (t:TreeV)(kz z1 z2 zs:List Int):Nat->Bool
 | 0=>false
 | r+1=>t.rootZ (r+1) (t.lvlZ kz z1 z2 (t.leafZ kz z1 z2 zs) r).length
def TreeV.callsR (t:TreeV)(kz z1 z2 zs:List Int)(r:Nat):List CallS:=t.rowC kz z1 z2 r (t.rtR kz z1 z2 zs r) (t.dataR kz z1 z2 zs r) (t.dataR kz z1 z2 zs r).length
def TreeV.allC (t:TreeV)(kz z1 z2 zs:List Int)(m:Nat):List (List CallS):=(List.range m).map (t.callsR kz z1 z2 zs)
theorem TreeV.lvl_is (t:TreeV)(kz z1 z2 zs:List Int)(r:Nat):t.lvlZ kz z1 z2 (t.leafZ kz z1 z2 zs) r=t.rowZ kz z1 z2 r (t.rtR kz z1 z2 zs r) (t.dataR kz z1 z2 zs r) (t.dataR kz z1 z2 zs r).length:=by
 cases r<;>rfl
theorem TreeV.allC_succ (t:TreeV)(kz z1 z2 zs:List Int)(m:Nat):t.allC kz z1 z2 zs (m+1)=t.allC kz z1 z2 zs m++[t.callsR kz z1 z2 zs m]:=by simp[TreeV.allC,List.range_succ]
theorem TreeV.allC_length (t:TreeV)(kz z1 z2 zs:List Int)(m:Nat):(t.allC kz z1 z2 zs m).length=m:=by simp[TreeV.allC]
theorem ZD {t:TreeV}(h:t.validE=0)(I:0<=t.l/\t.l<=4294967295)(kz z1 z2 zs:List Int)(r:Nat):1<=(t.dataR kz z1 z2 zs r).length/\(t.dataR kz z1 z2 zs r).length<=zs.length+1/\ ∀i,(qC (t.dataR kz z1 z2 zs r) i).length<=64*(zs.length+1):=by
 have D:=Qc h I kz z1 z2 zs;have q:1<=t.ln:=by
  have:=(qn h).2.2.2.2.2.2.2.2.1
  unfold TreeV.ln;omega
 cases r with
 | zero=>
  have o:=qcq zs q;exact⟨o.1,o.2,fun i=>by have:=qfy (n:=t.ln) zs i;show(qC (QH t.ln zs) i).length<=_;omega⟩
 | succ r=>
  have G:=Qo h kz z1 z2 D.1 D.2.2 r;have o:=ZG h (r+1) G.1;refine⟨o.1,?_,fun i=>?_⟩
  ·show(t.upZ (r+1) _).length<=_;omega
  ·have O:=jP t (r+1) (t.lvlZ kz z1 z2 (t.leafZ kz z1 z2 zs) r) i;have J:=zq G.2.2;show(qC (t.upZ (r+1) _) i).length<=_
   omega
theorem qdD {I:List Oper}{a:Act}(U:o.guard=none)(s x:Operand)
  (ho:o.op= .call { callee:= .builtin .append,args:= #[s,x],argTypes:= #[67,67] }) (B:Nat) (v:Value) (L:List (List Int)) (z:List Int) (u:Value) (hs:a.eval s=v) (hl:ListO B W v L) (X:OwnB B W u z)
  (hx:a.eval x= .slice (some ⟨W.heap.size,0,none⟩) 1 1) (ae:L.length<=8388608) (hB:B<=W.heap.size)
  (h: ∀v' w',ListO B w' v' (L++[z])->KB B W w'->Spare (fun k=>v.ownBlock≠some k) W w'->(v'.ownBlock=v.ownBlock\/ ∀g,v'.ownBlock=some g->W.heap.size<=g)->wpList Tryz.prog ops Q I (a.put o.dst v') w'):wpList Tryz.prog ops Q (o::I) a (W.alloc (.cells #[u] 24)):=by
 obtain⟨ib,ad,Z,ab,Y⟩:=info_parts Yn;obtain⟨vs,r,ac⟩:=hl;have aa:vs.length=L.length:=by have:=r.1;simpa using this
 refine wpList_append_own_at _ U s x _ ho B 24 ib (.slice none 0 0) 1 24 Tryz.underlying67 ad Z ab Y rfl (by decide) v L.length vs hs (r.alloc _) ⟨W.heap.size,0,none⟩ 1 1 [u] hx rfl (cell_one_new W u _) (by simpa using X.one) (by unfold maxLen;omega) (by omega) (by simp;omega) fun v' w' h2 h3 _ D=>?_
 have q:Spare (fun k=>v.ownBlock≠some k) W w':=(Spare.of_below _ (Br.alloc Nl _)).trans (Spare.of_grown h3) (fun _ _ h=>h);have O:KB B W w':=⟨q.os,q.tape,q.output,q.size,fun k hk=>q.block k (by omega) (fun G=>by
   rcases r.2 with⟨rfl, -⟩|⟨g,V,S,rfl,h4, -⟩
   ·cases G
   ·simp only[Value.ownBlock,Option.some.injEq]at G;omega),fun k c J=>by
   rw[q.block k (Ai J).1 (fun G=>?_)]
   ·exact J
   ·rcases r.2 with⟨rfl, -⟩|⟨g,V,S,rfl, -,D, -⟩
    ·cases G
    ·simp only[Value.ownBlock,Option.some.injEq]at G;subst G;rw[D]at J;simp only[Option.some.injEq,Obj.cells.injEq]at J;exact absurd J.2.1 (by decide)⟩
 refine h v' w' (ListO.snoc (w:=W) (vs:=vs) ac aa X h2 O) O q ?_;rcases D with D|D
 ·exact .inl D
 ·exact .inr fun g hg=>by rw[D]at hg;simp only[World.alloc,Array.size_push,Option.some.injEq]at hg;omega
theorem qit {t:TreeV}{zs:List Int}{fk bl:Nat}{I:List (List CallS)->List CallS->(Nat->Prop)->World->Prop}(hS:Seer t kz z1 z2 w0 fk bl I)(hT:TreeOk t kz z1 z2 w0)(hn:zs.length<=4194304)(v:Value)(w:World)(Z:Nat->Prop)
  (hw:Below w0.heap.size w0 w) (hI:I [] [] Z w) (hv:ListO w0.heap.size w v (QH t.ln zs)) (a3: ∀g,v.ownBlock=some g-> ¬Z g) (cA: ∀(args:Array Value) (W:World),(callFunc fk args).run Tryz.prog W= .ok (.enter fk args) W):
  Calls Tryz.prog 115 #[t.val,v,.func (.func fk) #[] #[.pointer (some ⟨bl,0,none⟩)]] w fun e w'=>e= .returned (.tuple #[])/\(∃R F',t.topAt kz z1 z2 (t.leafZ kz z1 z2 zs) R/\I (t.allC kz z1 z2 zs R) (t.callsR kz z1 z2 zs R) F' w'/\ ∀k,F' k->Z k\/w.heap.size<=k)/\Below w0.heap.size w w'/\Tend Z w w':=by
 obtain⟨X,ae⟩:=Ex w.heap.size;have aW:w0.heap.size<=X:=by have:=hw.size;omega
 have HS:=hid hS;have HT:=hid hT;have HW:=hid hw;have HI:=hid hI;have HV:=hid hv;have bC:=hid a3;have aQ:=hid (fun k G=>hS.lt hI k G);have bi:=hid (fun r=>ZD hT.v hT.l kz z1 z2 zs r);have ao:=Qc hT.v hT.l kz z1 z2 zs;have bQ:=hid (Qo hT.v kz z1 z2 ao.1 ao.2.2);have bA:=hid ao.2.1;have hp:2<=t.p/\t.p<=255:=⟨(qn hT.v).2.2.2.2.2.2.1,(qn hT.v).2.2.2.2.2.2.2.1⟩;obtain⟨va,vc,rfl,cl,cm, -⟩:=hv.hold;have aV:Below X w (w.alloc (.cells t.c 26)):=by rw[<-ae];exact Br.alloc Nl _
 have al:=Wn w (.cells t.c 26);rw[ae]at al;clear hS hT hw hI hv a3 ao;unfold TreeV.val;go_enter Tryz.func115,Tryz.ntmps115
 go_upto_region 1 with(fail)
 generalize w.alloc (.cells t.c 26)=wA at*;have b9:=hid al;have ac:=hid aV;have cC:X<wA.heap.size:=(Ai al).1;clear al aV;go_wp2_with fail
 go_loopw [1,6,7] (fun d rt i wr=> ∃(r:Nat) (F:Nat->Prop),i= .int .i64 r/\(r:Int)<=t.p - 1/\rt= .bool (t.rtR kz z1 z2 zs r)/\ListO w0.heap.size wr d (t.dataR kz z1 z2 zs r)/\(∀g,d.ownBlock=some g-> ¬F g)/\I (t.allC kz z1 z2 zs r) [] F wr/\(∀k,F k->Z k\/X<k)/\
   (∀q',1<=q'->q'<r->t.rootZ q' (t.lvlZ kz z1 z2 (t.leafZ kz z1 z2 zs) (q' - 1)).length=false)/\Below w0.heap.size w wr/\Tend Z w wr/\wr.heap[X]? =some (.cells t.c 26 (0,0))) (fun _ _ i _=>256 - (intOf i).toNat)
 case atStart=>
  have aT:KB 0 w wA:=KB.of_below (ae▸ac.out) (Nat.zero_le _);exact⟨0,Z,rfl,by omega,rfl,HV.out.below (ae▸ac.out),bC.out,HS.out.keep HI.out (ac.out.mono aW) (fun k G=>ac.out.block k (by have:=(aQ.out k G).2;omega)) aT.bytes,fun k G=> .inl G,fun q' h1 S=>by omega,ac.out.mono aW,⟨Spare.of_below _ (ae▸ac.out),aT.bytes⟩,b9.out⟩
 case round=>
  obtain⟨r,F,rfl,cE,rfl,hd,ba,bc,az,aN,hb,ht,aa⟩:=hrel;rename World=>wq
  have aZ:Below w0.heap.size w0 wq:=HW.out.trans hb;obtain⟨d1,d2,d3⟩:=bi.out r;have a4:=t.lvl_is kz z1 z2 zs r;have bd:t.callsR kz z1 z2 zs r=t.rowC kz z1 z2 r (t.rtR kz z1 z2 zs r) (t.dataR kz z1 z2 zs r) (t.dataR kz z1 z2 zs r).length:=rfl;have a6: ∀b,t.rtR kz z1 z2 zs r=b->(b=true->1<=r/\t.rootZ r (t.lvlZ kz z1 z2 (t.leafZ kz z1 z2 zs) (r - 1)).length=true)/\(b=false->1<=r->t.rootZ r (t.lvlZ kz z1 z2 (t.leafZ kz z1 z2 zs) (r - 1)).length=false):=by
   intro b hb;subst hb
   cases r with
   | zero=>exact⟨(fun h=>by cases h),(fun _ h=>by omega)⟩
   | succ r=>exact⟨fun h=>⟨by omega,h⟩,fun h _=>h⟩
  have ar:=hid a6;have b5:=hid a4;have bh:=hid bd;have b8:=hid (show ∀q,q=r+1->t.dataR kz z1 z2 zs q=t.upZ q (t.lvlZ kz z1 z2 (t.leafZ kz z1 z2 zs) r)/\t.rtR kz z1 z2 zs q=t.rootZ q (t.lvlZ kz z1 z2 (t.leafZ kz z1 z2 zs) r).length from fun q hq=>by subst hq;exact⟨rfl,rfl⟩);have bo:=hid (bQ.out r);have ck:=hid (show ∀l∈t.allC kz z1 z2 zs r,l.length<=8388608 from fun l hl=>by
   obtain⟨q, -,rfl⟩:=List.mem_map.1 hl;have:=(bi.out q).2.1
   show(t.rowC _ _ _ _ _ _ _).length<=_
   rw[qV];omega)
  have bP:=hid (t.allC_length kz z1 z2 zs r);have ci:=hid (t.allC_succ kz z1 z2 zs r);generalize t.dataR kz z1 z2 zs r=D at*;generalize t.rtR kz z1 z2 zs r=rt at*;generalize aH:t.callsR kz z1 z2 zs r=CR at*;generalize aw:t.allC kz z1 z2 zs r=AC at*;have bt:=hid aH;have br:=hid aw;clear aH aw;obtain⟨dg,dc,dx,rfl,cF, -, -⟩:=hd.get (i:=0) (by omega);have bp: ¬F dg:=ba dg rfl;have bu: ¬F X:=fun h=>by
   rcases az X h with S|S
   ·have:=(aQ.out X S).2;omega
   ·omega
  obtain⟨bN,b3⟩:=Ex wq.heap.size;have cB:X<bN:=by rw[<-b3];exact(Ai aa).1
  have HD:=hid hd;have bW:=hid bc;have a7:=hid az;have aP:=hid aN;have HB:=hid hb;have bO:=hid ht;have bK:=hid aa;have cv:=hid aZ;have bF:=hid d3;have cG:D.length<=4194305:=by omega
  have cy:(D.length:Int)<=9223372036854775807:=by omega
  clear hd ba bc az aN hb ht aa aZ a4 bd a6 d3 d2;go_wp2_with fail
  go_loopw [8,15] (fun s i wr=> ∃(j:Nat) (F':Nat->Prop),i= .int .i64 j/\j<=D.length/\ListO bN wr s (t.rowZ kz z1 z2 r rt D j)/\(∀g,s.ownBlock=some g-> ¬F' g)/\I AC (t.rowC kz z1 z2 r rt D j) F' wr/\(∀k,F' k->F k\/bN<=k)/\ListO w0.heap.size wr (.slice (some ⟨dg,0,none⟩) D.length dc) D/\Below w0.heap.size w wr/\Tend Z w wr/\wr.heap[X]? =some (.cells t.c 26 (0,0))/\bN<=wr.heap.size) (fun _ i _=>D.length - (intOf i).toNat)
  case atStart=>exact⟨0,F,rfl,Nat.zero_le _,ListO.nil _ _,(fun g h=>by cases h),bW.out,fun k h=> .inl h,HD.out,HB.out,bO.out,bK.out,by omega⟩
  case round=>
   obtain⟨j,F',rfl,hj,ho,aF,hI,ad,hd,hb,ht,aa,bD⟩:=hrel;by_cases ch:j<D.length
   case pos=>
    have cn:(j:Int)<D.length:=by omega
    obtain⟨g1,c1,x,e,cx,hx,aG⟩:=hd.get ch;simp only[Value.slice.injEq,Option.some.injEq,Addr.mk.injEq,and_true,true_and]at e;obtain⟨rfl,rfl⟩:=e;obtain⟨xb,xd,rfl, -, -⟩:=aG.hold.slice;have bS:=hid aG;have bY:=hid (bF.out j);obtain⟨ql,aI⟩: ∃q:Bool,decide (j+1=D.length)=q:=⟨_,rfl⟩;have cz:((j:Int)==(D.length:Int) - 1)=ql:=by
     rw[<-aI,Bool.eq_iff_iff,beq_iff_eq,decide_eq_true_eq];omega
    have aK:=hid aI;have cD:IntKind.u64.wrap (j:Int)=(j:Int):=u64_wrap_id _ (by omega) (by omega);have HO:=hid ho;have av:=hid aF;have aj:=hid hI;have Y:=hid ad;have cb:=hid hd;have ag:=hid hb;have ab:=hid ht;have bb:=hid aa;have ay:=hid (HW.out.trans hb);have U:w0.heap.size<=wr.heap.size:=ay.out.size;have aO:=HT.out.below ay.out;have ah:=hid aO;obtain⟨a8,c8,rfl, -, -, -⟩:=ho.hold;have bR:=hid (HS.out.lt hI);clear aG aI ho aF hI ad hd hb ht aa aO;go_wp2_with (refine L26 X rfl bb.out ?_)
    refine(qet t ah.out.v ah.out.l z1 z2 kz r j (by omega) (by omega) ql rt xb (qC D j).length xd wr ah.out.s ah.out.p ah.out.k).mono ?_;rintro e w4 ⟨bv,kv,rfl,aU,bk,V⟩;have cq:=V.size;have an:=KB.of_below V bD;have aA:=hid (HS.out.keep aj.out (V.mono U) (fun k G=>V.block k (bR.out k G).2) an.bytes);have cj:=hid (bS.out.kb an);have aM:=hid (HO.out.below V);have a9:=hid (cb.out.below V);have cc:=hid (qf bb.out V);have bJ:=hid (ay.out.trans (V.mono U));have bT:=hid (ag.out.trans (V.mono U));have aS:=hid (show Tend Z w w4 from⟨ab.out.sp.trans (Spare.of_below (fun k=> ¬Z k) V) (fun _ _ h=>h),fun k c h=>an.bytes k c (ab.out.bytes k c h)⟩);have be:=hid (HS.out.see (la:=ql) (rt:=rt) aA.out bP.out (by omega) (show j<=8388608 by omega) ck.out (by rw[qV];omega) bJ.out (ownsRow_le aU U) (ownsRow_le bk U) cj.out (by have:=bY.out;omega));have bs:=hid (HS.out.lt aA.out);clear aU bk an V;go_wp2_with fail
    refine be.out.mono ?_;rintro e w5 ⟨u,F5,rfl,hu,aJ,aE,J⟩;obtain⟨u1,u3,rfl, -, -⟩:=hu.hold.slice;have cu:=J.sp.size;have ax: ∀g,(Value.slice a8 (t.rowZ kz z1 z2 r rt D j).length c8).ownBlock=some g->g<wr.heap.size:=HO.out.block_lt;have bf:KB w0.heap.size w4 w5:=⟨J.sp.os,J.sp.tape,J.sp.output,J.sp.size,fun k G=>J.sp.block k (by omega) (fun h=>by have:=(bs.out k h).1;omega),J.bytes⟩;have bg:=hid (aM.out.tend J.bytes (fun g O=>J.sp.block g (by have:=ax g O;omega) (av.out g O)));have aq: ¬F' dg:=fun h=>by
     rcases Y.out dg h with S|S
     ·exact bp S
     ·omega
    have aD: ¬F' X:=fun h=>by
     rcases Y.out X h with S|S
     ·exact bu S
     ·omega
    have bI:=hid (a9.out.tend J.bytes (fun g O=>by
     simp only[Value.ownBlock,Option.some.injEq]at O;subst O;exact J.sp.block dg (by omega) aq))
    have b7:=hid ((J.sp.block X (by omega) aD).trans cc.out);have bX:=hid (hu.le (show bN<=w4.heap.size by omega));have ce:=hid (show ∀k,F5 k->F k\/bN<=k from fun k G=>by
     rcases aJ k G with h|h
     ·exact Y.out k h
     ·exact .inr (by omega))
    have ai:=hid (show ∀g,(Value.slice a8 (t.rowZ kz z1 z2 r rt D j).length c8).ownBlock=some g-> ¬F5 g from fun g O h=>by
     rcases aJ g h with S|S
     ·exact av.out g O S
     ·have:=ax g O;omega)
    have ca:=hid aE;have bG:=hid (bT.out.trans bf.below);have aR:=hid (show Tend Z w w5 from⟨aS.out.sp.trans J.sp (fun k G h S=>by
     rcases Y.out k S with h3|h3
     ·rcases a7.out k h3 with h4|h4
      ·exact h h4
      ·omega
     ·omega),fun k c h=>J.bytes k c (aS.out.bytes k c h)⟩)
    have aB:=hid (HS.out.lt aE);have bj:t.node kz z1 z2 r j ql rt (qC D j)=t.node kz z1 z2 r j (decide (j+1=D.length)) rt (qC D j):=by rw[aK.out]
    have bn:t.callS kz z1 z2 r j ql rt (qC D j)=t.callS kz z1 z2 r j (decide (j+1=D.length)) rt (qC D j):=by rw[aK.out]
    have bU:=hid bj;have bE:=hid bn;have aC:=t.rowZ_length kz z1 z2 r rt D j;have bL:=hid aC;generalize t.node kz z1 z2 r j ql rt (qC D j)=ND at*;generalize t.callS kz z1 z2 r j ql rt (qC D j)=CD at*;rw[aC]at bg ai⊢;clear hu aJ aE J bf bj bn aC be HO av aM a9 aA ax aq aD;go_wp2_with (first|((with_reducible show wpList _ _ _ (Oper.mk _ (Op.buildSlice _ _ _) _ _ _ _::_) _ _);refine QU rfl _ rfl _ _ _ rfl ?_)|(at_builtin;refine qdD rfl _ _ rfl bN (.slice a8 j c8) (t.rowZ kz z1 z2 r rt D j) ND (.slice u1 ND.length u3) rfl bg.out bX.out rfl (by rw[bL.out];omega) (by omega) ?_;intro v' w' bw o bz bx))
    have cr:=o.size;have aL:Below w0.heap.size w5 w':=o.below.mono (by omega);have b6: ∀k,F5 k->w'.heap[k]? =w5.heap[k]? :=fun k G=>bz.block k (aB.out k G).2 (fun e=>ai.out k e G)
    refine⟨⟨j+1,F5,rfl,by omega,?_,?_,?_,ce.out,?_,bG.out.trans aL,⟨aR.out.sp.trans (T:=fun k=>k<bN) ⟨o.os,o.tape,o.output,o.size,fun k _ G=>o.block k G⟩ (fun k G _=>by omega),fun k c h=>o.bytes k c (aR.out.bytes k c h)⟩,?_,by omega⟩,by simp[intOf];omega⟩
    ·rw[zN,<-bU.out];exact bw
    ·intro g O h;rcases bx with S|S
     ·rw[S]at O;exact ai.out g O h
     ·have:=S g O;have:=(aB.out g h).2;omega
    ·rw[zO,<-bE.out];exact HS.out.keep ca.out aL b6 o.bytes
    ·exact bI.out.tend o.bytes (fun g O=>by
      simp only[Value.ownBlock,Option.some.injEq]at O;subst O;exact o.block dg (by omega))
    ·exact(o.block X (by omega)).trans b7.out
   obtain rfl:j=D.length:=by omega
   rw[<-bh.out]at hI;rw[<-b5.out]at ho;obtain⟨a8,c8,rfl,cd,bM, -⟩:=id ho.hold;have HO:=hid ho;have aj:=hid hI;have Y:=hid (show ∀k,F' k->Z k\/X<k from fun k G=>by
    rcases ad k G with h|h
    ·exact a7.out k h
    ·exact .inr (by omega))
   have ag:=hid hb;have ab:=hid ht;have a5:=hid (HS.out.lt hI);clear ho aF hI ad hd hb ht
   cases rt
   case true=>
    go_wp2_with fail
    exact Bp (results_none rfl _ _ _) rfl ⟨rfl,⟨r,F',⟨((ar.out true rfl).1 rfl).1,((ar.out true rfl).1 rfl).2,aP.out⟩,by rw[br.out,bt.out];exact aj.out,fun k G=>by
     rcases Y.out k G with h|h
     ·exact .inl h
     ·exact .inr (by omega)⟩,ag.out,ab.out⟩
   case false=>
    obtain⟨l1,l2,l3⟩:=bo.out;have b4:=zq l3;have cf:=bA.out;have aY:=hid ((ar.out false rfl).2 rfl);have aX:=hid (qjp t HT.out.v (r+1) (by omega) _ _ wr HO.out.hold (by omega) (by omega) l1);have ct:IntKind.i64.wrap ((r:Int)+1)=((r+1:Nat):Int):=by rw[IntKind.wrap_i64]<;>omega
    have co:((r:Int)+1)<=t.p - 1:=by
     by_cases h0:r=0
     ·omega
     ·by_cases h1:(r:Int)=t.p - 1
      ·have S:=aY.out (by omega);rw[qaT h1]at S
       cases S
      ·omega
    have au:CR≠[]:=by
     rw[bh.out];exact List.length_pos_iff.1 (by rw[qV];omega)
    have bq:=hid au;obtain⟨ap,am⟩:=b8.out (r+1) rfl;have ap:=hid ap;have am:=hid am;generalize t.lvlZ kz z1 z2 (t.leafZ kz z1 z2 zs) r=LZ at*;obtain⟨M,hM⟩:=Ex LZ.length;rw[hM]at aX am⊢;clear l1 l2 l3 b4 cf au cd bM hM;go_wp2_with (refine L26 X rfl aa ?_)
    refine aX.out.mono ?_;rintro e w9 ⟨u,rfl,hu,af⟩;have cH:=af.size;have bm:=KB.of_below af (Nat.zero_le _);have U:w0.heap.size<=wr.heap.size:=by have:=(HW.out.trans ag.out).size;omega
    have ak:=hid af;have bZ:=hid (qf aa af);have bH:=hid hu;obtain⟨ua,uc,rfl, -, -, -⟩:=id hu.hold;have bV:=hid (show ∀g,(Value.slice ua (t.upZ (r+1) LZ).length uc).ownBlock=some g->wr.heap.size<=g from fun g O=>by
     obtain⟨vs,cg, -⟩:=hu;rcases cg.2 with⟨e, -⟩|⟨g',cp,cw,e,h1, -⟩
     ·simp only[Value.slice.injEq]at e;rw[e.1]at O;cases O
     ·simp only[Value.slice.injEq]at e;rw[e.1]at O;simp only[Value.ownBlock,Option.some.injEq]at O;omega)
    clear hu af;go_wp2_with fail
    refine⟨⟨r+1,F',rfl,by omega,by rw[am.out],by rw[ap.out];exact bH.out.le U,fun g O h=>by have:=bV.out g O;have:=(a5.out g h).2;omega,?_,Y.out,fun q' h1 S=>?_,ag.out.trans (ak.out.mono U),⟨ab.out.sp.trans (Spare.of_below (fun k=> ¬Z k) ak.out) (fun _ _ h=>h),fun k c h=>bm.bytes k c (ab.out.bytes k c h)⟩,bZ.out⟩,by simp[intOf];omega⟩
    ·rw[ci.out];exact HS.out.keep (HS.out.next bq.out aj.out) (ak.out.mono U) (fun k G=>ak.out.block k (a5.out k G).2) bm.bytes
    ·by_cases hq:q'=r
     ·subst hq;exact aY.out h1
     ·exact aP.out q' h1 (by omega)
