/- Lemmas. No condition. -/
import Derived.Test.YtahenngmaoellaaGreatO06
import Derived.Test.YtahenngmaoellaaGreatO14
set_option linter.all false
set_option maxRecDepth 100000
set_option maxHeartbeats 0
namespace Go.Proofs.YtahenngmaoellaaGreat
open Go.ChangeShapes Go.WideShapes Go.ChangeAt Go.RowKit Go.Joins Go.Shelf Go.Maps
open Go.Lib (hid)
attribute [local go_sem] Oper.semAt_some
def kB (big:Bool):Int:=cond big 1 2
def mB (big:Bool):Nat:=cond big 64 32
def sB (big:Bool):Nat:=cond big 16 8
theorem jt (big:Bool)(w:World):
  Calls Tryz.prog 133 #[.int .i64 (kB big)] w fun e w'=>e= .returned (.tuple #[.int .i64 (mB big),.int .i64 (mB big),.int .i64 (sB big)])/\w'=w:=by
 cases big<;>
 ·simp only[kB,mB,sB,cond];go_enter Tryz.func133,Tryz.ntmps133
  go_wp2
  exact Bp (results_tmp3 (fn:=Tryz.f133) (t:=2) (u:=3) (v:=4) rfl _ _ _) rfl ⟨rfl,rfl⟩
theorem YM (big:Bool)(w:World):
  Calls Tryz.prog 173 #[.int .i64 (kB big)] w fun e w'=>e= .returned (.int .i64 (mB big))/\w'=w:=by
 cases big<;>
 ·simp only[kB,mB,cond];go_enter Tryz.func173,Tryz.ntmps173
  go_wp2
  go_ret
  exact⟨rfl,rfl⟩
theorem JI (big:Bool)(w:World):
  Calls Tryz.prog 170 #[.int .i64 (kB big)] w fun e w'=>e= .returned (.int .i64 (mB big))/\w'=w:=by
 go_enter Tryz.func170,Tryz.ntmps170
 go_wp2_with fail
 refine(YM big _).mono ?_;rintro e w1 ⟨rfl,rfl⟩;go_wp2
 go_ret
 exact⟨rfl,rfl⟩
theorem qho (n lo hi:Int)(b:Bool)(r:b=decide (lo<=n/\n<=hi))(w:World):
  Calls Tryz.prog 165 #[.int .i64 n,.int .i64 lo,.int .i64 hi] w fun e w'=>e= .returned (.bool b)/\w'=w:=by
 subst r;by_cases o:lo<=n
 ·by_cases q:n<=hi
  ·rw[decide_eq_true (And.intro o q)];go_enter Tryz.func165,Tryz.ntmps165
   go_wp2
   go_ret
   exact⟨rfl,rfl⟩
  ·rw[decide_eq_false (fun h:lo<=n/\n<=hi=>q h.2)];go_enter Tryz.func165,Tryz.ntmps165
   go_wp2
   go_ret
   exact⟨rfl,rfl⟩
 ·rw[decide_eq_false (fun h:lo<=n/\n<=hi=>o h.1)];go_enter Tryz.func165,Tryz.ntmps165
  go_wp2
  go_ret
  exact⟨rfl,rfl⟩
theorem qec (zs:List Int)(v:Value)(at_ n:Nat)(w:World)(h:Holds8 w v zs)(o: ∀z∈zs,0<=z/\z<=255)(J:1<=n/\n<=8)(q:at_+n<=zs.length)(O:zs.length<=4294967296):
  Calls Tryz.prog 136 #[v,.int .i64 at_,.int .i64 n] w fun e w'=>e= .returned (.int .u64 (qO zs at_ n))/\w'=w:=by
 obtain⟨a,G,rfl,h⟩:=h;obtain⟨b,off,rfl,U,r⟩:=h.resolve_left (fun e=>by rw[e]at q;simp at q;omega);have D:=hid r;clear h r;go_enter Tryz.func136,Tryz.ntmps136
 go_wp2_with fail
 go_loopw [7,10] (fun s i wr=> ∃k:Nat,s= .int .u64 (qO zs at_ k)/\i= .int .i64 k/\w=wr/\k<=n) (fun _ i _=>n - (intOf i).toNat)
 case atStart=>exact⟨0,rfl,rfl,rfl,by omega⟩
 case round=>
  obtain⟨k,rfl,rfl,rfl,S⟩:=hrel;by_cases I:k<n
  ·have V:=D.out (at_+k) (by omega);have X:=orZ (qO zs at_ k) (qo zs (at_+k)) k (by omega) (Qz o k (by omega)) (qZ o (by omega)).2;go_wp2
   exact⟨⟨k+1,rfl,rfl,by trivial,by omega⟩,by simp[intOf];omega⟩
  ·obtain rfl:k=n:=by omega
   go_wp2
   go_ret
   exact⟨rfl,rfl⟩
def qaI (zs:List Int)(at_ n:Nat):Nat->Int
 | 0=>0
 | m+1=>qaI zs at_ n m*256+qo zs (at_+(n - 1 - m))
theorem qfk (zs:List Int)(at_ n:Nat): ∀m,m<=n->qaI zs at_ n m*2^(8*(n - m))+qO zs at_ (n - m)=qO zs at_ n
 | 0,_=>by simp[qaI]
 | m+1,h=>by
  have o:=qfk zs at_ n m (by omega);obtain⟨d,r⟩: ∃d,n - m=d+1:=⟨n - m - 1,by omega⟩;have q:n - (m+1)=d:=by omega
  have D:n - 1 - m=d:=by omega
  rw[r]at o;rw[q,<-o,qaI,D,qO,show 8*(d+1)=8*d+8 by omega,Int.pow_add];simp only[Int.add_mul,Int.mul_add];rw[Int.mul_assoc,show(256:Int)*2^(8*d)=2^(8*d)*2^8 by rw[Int.mul_comm];rfl];omega
theorem qi6 (zs:List Int)(at_ n:Nat):qaI zs at_ n n=qO zs at_ n:=by
 have:=qfk zs at_ n n Nl
 simpa [qO] using this
theorem qbc {zs:List Int}(o: ∀z∈zs,0<=z/\z<=255){at_ n:Nat}(q:at_+n<=zs.length): ∀m,m<=n->0<=qaI zs at_ n m/\qaI zs at_ n m<256^m
 | 0,_=>by simp[qaI]
 | m+1,h=>by
  obtain⟨r,D⟩:=qbc o q m (by omega);obtain⟨-,b1,b2⟩:=qZ o (show at_+(n - 1 - m)<zs.length by omega);simp only[qaI];rw[Int.pow_succ];omega
theorem qgA {zs:List Int}(r: ∀z∈zs,0<=z/\z<=255){at_ n:Nat}(o:at_+n<=zs.length)(D:n<=8){m:Nat}(G:m<n):0<=qaI zs at_ n m/\qaI zs at_ n m<72057594037927936:=by
 obtain⟨I,q⟩:=qbc r o m (by omega);have:m=0\/m=1\/m=2\/m=3\/m=4\/m=5\/m=6\/m=7:=by omega
 rcases this with rfl|rfl|rfl|rfl|rfl|rfl|rfl|rfl<;>simp only[Int.reducePow]at q<;>omega
theorem qjR (x b:Int)(q:0<=x/\x<72057594037927936)(o:0<=b/\b<=255):bits .or .u64 (IntKind.u64.wrap (x*256)) (IntKind.u64.wrap b)=x*256+b:=by
 rw[u64_wrap_id b o.1 (by omega)];rw[u64_wrap_id (x*256) (by omega) (by omega)];exact bits_join .u64 64 (by decide) wraps_u64 8 (x*256) b (by omega) (by simp only[Int.reducePow];omega) (by simp only[Int.reducePow];omega) o.1 (by simp only[Int.reducePow];omega) (by simp only[Int.reducePow];omega)
theorem ZZ (zs:List Int)(v:Value)(at_ n:Nat)(w:World)(h:Holds8 w v zs)(q: ∀z∈zs,0<=z/\z<=255)(I:1<=n/\n<=8)(o:at_+n<=zs.length)(V:zs.length<=4294967296):
  Calls Tryz.prog 179 #[v,.int .i64 at_,.int .i64 n] w fun e w'=>e= .returned (.int .u64 (qO zs at_ n))/\w'=w:=by
 obtain⟨a,U,rfl,h⟩:=h;obtain⟨b,off,rfl,Y,r⟩:=h.resolve_left (fun e=>by rw[e]at o;simp at o;omega);have J:=hid r;clear h r;go_enter Tryz.func179,Tryz.ntmps179
 go_wp2_with fail
 go_loopw [7,8] (fun s i wr=> ∃m:Nat,s= .int .u64 (qaI zs at_ n m)/\i= .int .i64 ((n:Int) - 1 - m)/\w=wr/\m<=n) (fun _ i _=>(intOf i+1).toNat)
 case atStart=>exact⟨0,rfl,by simp,rfl,by omega⟩
 case round=>
  obtain⟨m,rfl,rfl,rfl,X⟩:=hrel;by_cases D:m<n
  ·have S:=J.out (at_+(n - 1 - m)) (by omega);have O:=qjR _ _ (qgA q o I.2 D) (qZ q (show at_+(n - 1 - m)<zs.length by omega)).2;have hi:(n:Int) - 1 - m=((n - 1 - m:Nat):Int):=by omega
   obtain⟨j,G⟩:=Ex (n - 1 - m);rw[hi];rw[G]at S O⊢;go_wp2
   exact⟨⟨m+1,by rw[qaI,G],by first|rfl|(congr 1;omega)|(congr 1),by trivial,by omega⟩,by first|(simp[intOf];done)|(simp[intOf];omega)⟩
  ·obtain rfl:m=n:=by omega
   go_wp2
   go_ret
   exact⟨by rw[qi6];rfl,rfl⟩
def parV (dg ky fo dp lf ofs xo nd inr:Int)(sa pe:Value):Value:= .agg #[.int .i64 dg,.int .i64 ky,.int .i64 fo,.int .i64 dp,.int .u32 lf,.int .u64 ofs,.int .u32 xo,.int .i64 nd,.int .i64 inr,sa,pe]
def okC (big:Bool)(dg ky dp xo inr:Int):Prop:=(1<=dg/\dg<=(mB big:Nat))/\(0<=ky/\ky<=(mB big:Nat))/\(xo=0->1<=dp)/\(0<=inr/\inr<=(mB big:Nat))
structure okP (big:Bool)(dg ky fo dp ofs nd inr:Int):Prop where
 dg:1<=dg/\dg<=(mB big:Nat)
 ky:0<=ky/\ky<=(mB big:Nat)
 fo:0<=fo/\fo<=255
 dp:1<=dp/\dp<=255
 ofs:0<=ofs/\(big=false->ofs<281474976710656)
 nd:0<=nd/\nd<=255
 inr:0<=inr/\inr<=(mB big:Nat)
theorem qcs (big:Bool)(Y S I V lf q G o:Int)(a1 a2:Option Addr)(X O c1 c2:Nat)(w:World)(h:okP big Y S I V q G o)(r:X<=sB big)(J:O<=sB big):
  Calls Tryz.prog 137 #[.int .i64 (kB big),parV Y S I V lf q 0 G o (.slice a1 X c1) (.slice a2 O c2)] w fun e w'=>e= .returned (.int .i64 0)/\Below w.heap.size w w':=by
 obtain⟨Z,q2,q3,q4,⟨q5,D⟩,q7,q8⟩:=h;have U:=fun w=>jt big w
 unfold parV
 cases big
 all_goals
  first
  | (have q9:=D rfl)
  | skip
  clear D;simp only[kB,mB,sB,cond]at U Z q2 q8 r J⊢;go_enter Tryz.func137,Tryz.ntmps137
  go_wp2_with fail
  refine(U _).mono ?_;rintro e w1 ⟨rfl,rfl⟩;iterate 6
   go_wp2_with fail
   refine(qho _ _ _ true (decide_eq_true (by omega)).symm _).mono ?_;rintro e w2 ⟨rfl,rfl⟩
  go_wp2_with fail
  go_ret
  exact⟨rfl,Br.alloc Nl _⟩
theorem qa5 (big:Bool)(Y S I V lf q G o:Int)(a1 a2:Option Addr)(X O c1 c2:Nat)(w:World)(h:okP big Y S I V q G o)(r:X<=sB big)(J:O<=sB big):
  Calls Tryz.prog 169 #[.int .i64 (kB big),parV Y S I V lf q 0 G o (.slice a1 X c1) (.slice a2 O c2)] w fun e w'=>e= .returned (.int .i64 0)/\Below w.heap.size w w':=by
 obtain⟨⟨p1,Z⟩,⟨p2,q2⟩,⟨p3,q3⟩,⟨p4,q4⟩,⟨q5,D⟩,⟨p7,q7⟩,⟨p8,q8⟩⟩:=h;have U:=fun w=>YM big w
 unfold parV
 cases big
 all_goals
  first
  | (have q9:=D rfl)
  | skip
  clear D;simp only[kB,mB,sB,cond]at U Z q2 q8 r J⊢;go_enter Tryz.func169,Tryz.ntmps169
  go_wp2_with fail
  refine(U _).mono ?_;rintro e w1 ⟨rfl,rfl⟩;go_wp2_with fail
  go_ret
  exact⟨rfl,Br.alloc Nl _⟩
