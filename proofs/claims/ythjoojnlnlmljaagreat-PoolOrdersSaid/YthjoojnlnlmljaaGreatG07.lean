/- Small functions over blocks of parameters, by the program and by the reference. No condition. -/
import Derived.Test.YthjoojnlnlmljaaGreatG05
import Derived.Test.YthjoojnlnlmljaaGreatG06
set_option linter.all false
set_option maxRecDepth 100000
set_option maxHeartbeats 8000000
namespace Go.Proofs.YthjoojnlnlmljaaGreat
open Go.ChangeShapes Go.WideShapes Go.ChangeAt Go.RowKit Go.Joins Go.Shelf Go.Maps
open Go.Lib (hid)
attribute [local go_sem] Oper.semAt_some
def kB (big:Bool):Int:=cond big 1 2
def mB (big:Bool):Nat:=cond big 64 32
def sB (big:Bool):Nat:=cond big 16 8
theorem ZK (big:Bool)(w:World):
  Calls Tryz.prog 126 #[.int .i64 (kB big)] w fun e w'=>e= .returned (.tuple #[.int .i64 (mB big:Nat),.int .i64 (mB big:Nat),.int .i64 (sB big:Nat)])∧w'=w:=by
 cases big<;>
 ·simp only[kB,mB,sB,cond];go_enter Tryz.func126,Tryz.ntmps126
  go_wp2
  exact Bp (results_tmp3 (fn:=Tryz.f126) (t:=2) (u:=3) (v:=4) rfl _ _ _) rfl ⟨rfl,rfl⟩
theorem Yf (big:Bool)(w:World):
  Calls Tryz.prog 167 #[.int .i64 (kB big)] w fun e w'=>e= .returned (.int .i64 (mB big:Nat))∧w'=w:=by
 cases big<;>
 ·simp only[kB,mB,cond];go_enter Tryz.func167,Tryz.ntmps167
  go_wp2
  go_ret
  exact⟨rfl,rfl⟩
theorem j6 (big:Bool)(w:World):
  Calls Tryz.prog 164 #[.int .i64 (kB big)] w fun e w'=>e= .returned (.int .i64 (mB big:Nat))∧w'=w:=by
 go_enter Tryz.func164,Tryz.ntmps164
 go_wp2_with fail
 refine(Yf big _).mono ?_;rintro e o ⟨rfl,rfl⟩;go_wp2
 go_ret
 exact⟨rfl,rfl⟩
theorem qf8 (n q o:Int)(b:Bool)(I:b=decide (q≤n∧n≤o))(w:World):
  Calls Tryz.prog 158 #[.int .i64 n,.int .i64 q,.int .i64 o] w fun e w'=>e= .returned (.bool b)∧w'=w:=by
 subst I;by_cases G:q≤n
 ·by_cases D:n≤o
  ·rw[decide_eq_true (And.intro G D)];go_enter Tryz.func158,Tryz.ntmps158
   go_wp2
   go_ret
   exact⟨rfl,rfl⟩
  ·rw[decide_eq_false (fun h:q≤n∧n≤o=>D h.2)];go_enter Tryz.func158,Tryz.ntmps158
   go_wp2
   go_ret
   exact⟨rfl,rfl⟩
 ·rw[decide_eq_false (fun h:q≤n∧n≤o=>G h.1)];go_enter Tryz.func158,Tryz.ntmps158
  go_wp2
  go_ret
  exact⟨rfl,rfl⟩
theorem qdk (zs:List Int)(v:Value)(at_ n:Nat)(w:World)(h:Holds8 w v zs)(D: ∀z∈zs,0≤z∧z≤255)(Y:1≤n∧n≤8)(q:at_+n≤zs.length)(X:zs.length≤4294967296):
  Calls Tryz.prog 129 #[v,.int .i64 (at_:Nat),.int .i64 (n:Nat)] w fun e w'=>e= .returned (.int .u64 (Qh zs at_ n))∧w'=w:=by
 obtain⟨a,I,rfl,h⟩:=h;obtain⟨b,off,rfl,Z,o⟩:=h.resolve_left (fun e=>by rw[e]at q;simp at q;omega);have G:=hid o;clear h o;go_enter Tryz.func129,Tryz.ntmps129
 go_wp2_with fail
 go_loopw [7,10] (fun s i wr=> ∃k:Nat,s= .int .u64 (Qh zs at_ k)∧i= .int .i64 k∧w=wr∧k≤n) (fun _ i _=>n - (intOf i).toNat)
 case atStart=>exact⟨0,rfl,rfl,rfl,by omega⟩
 case round=>
  obtain⟨k,rfl,rfl,rfl,O⟩:=hrel;by_cases J:k<n
  ·have V:=G.out (at_+k) (by omega);have U:=orZ (Qh zs at_ k) (qr zs (at_+k)) k (by omega) (QH D k (by omega)) (qU D (by omega)).2;go_wp2
   exact⟨⟨k+1,rfl,rfl,by trivial,by omega⟩,by simp[intOf];omega⟩
  ·obtain rfl:k=n:=by omega
   go_wp2
   go_ret
   exact⟨rfl,rfl⟩
def J6 (zs:List Int)(at_ n:Nat):Nat→Int
 | 0=>0
 | m+1=>J6 zs at_ n m*256+qr zs (at_+(n - 1 - m))
theorem qec (zs:List Int)(at_ n:Nat): ∀m,m≤n→J6 zs at_ n m*2^(8*(n - m))+Qh zs at_ (n - m)=Qh zs at_ n
 | 0,_=>by simp[J6]
 | m+1,h=>by
  have o:=qec zs at_ n m (by omega);obtain⟨d,G⟩: ∃d,n - m=d+1:=⟨n - m - 1,by omega⟩;have q:n - (m+1)=d:=by omega
  have D:n - 1 - m=d:=by omega
  rw[G]at o;rw[q,←o,J6,D,Qh,show 8*(d+1)=8*d+8 by omega,Int.pow_add];simp only[Int.add_mul,Int.mul_add];rw[Int.mul_assoc,show(256:Int)*2^(8*d)=2^(8*d)*2^8 by rw[Int.mul_comm];rfl];omega
theorem qhJ (zs:List Int)(at_ n:Nat):J6 zs at_ n n=Qh zs at_ n:=by
 have:=qec zs at_ n n Nl
 simpa [Qh] using this
theorem qay {zs:List Int}(o: ∀z∈zs,0≤z∧z≤255){at_ n:Nat}(q:at_+n≤zs.length): ∀m,m≤n→0≤J6 zs at_ n m∧J6 zs at_ n m<256^m
 | 0,_=>by simp[J6]
 | m+1,h=>by
  obtain⟨G,D⟩:=qay o q m (by omega);obtain⟨-,b1,b2⟩:=qU o (show at_+(n - 1 - m)<zs.length by omega);simp only[J6];rw[Int.pow_succ];omega
theorem qft {zs:List Int}(q: ∀z∈zs,0≤z∧z≤255){at_ n:Nat}(D:at_+n≤zs.length)(I:n≤8){m:Nat}(G:m<n):0≤J6 zs at_ n m∧J6 zs at_ n m<72057594037927936:=by
 obtain⟨J,o⟩:=qay q D m (by omega);have:m=0∨m=1∨m=2∨m=3∨m=4∨m=5∨m=6∨m=7:=by omega
 rcases this with rfl|rfl|rfl|rfl|rfl|rfl|rfl|rfl<;>simp only[Int.reducePow]at o<;>omega
theorem qir (x b:Int)(q:0≤x∧x<72057594037927936)(o:0≤b∧b≤255):bits .or .u64 (IntKind.u64.wrap (x*256)) (IntKind.u64.wrap b)=x*256+b:=by
 rw[u64_wrap_id b o.1 (by omega)];rw[u64_wrap_id (x*256) (by omega) (by omega)];exact bits_join .u64 64 (by decide) wraps_u64 8 (x*256) b (by omega) (by simp only[Int.reducePow];omega) (by simp only[Int.reducePow];omega) o.1 (by simp only[Int.reducePow];omega) (by simp only[Int.reducePow];omega)
theorem Zh (zs:List Int)(v:Value)(at_ n:Nat)(w:World)(h:Holds8 w v zs)(G: ∀z∈zs,0≤z∧z≤255)(V:1≤n∧n≤8)(o:at_+n≤zs.length)(hm:zs.length≤4294967296):
  Calls Tryz.prog 173 #[v,.int .i64 (at_:Nat),.int .i64 (n:Nat)] w fun e w'=>e= .returned (.int .u64 (Qh zs at_ n))∧w'=w:=by
 obtain⟨a,Y,rfl,h⟩:=h;obtain⟨b,off,rfl,h1,q⟩:=h.resolve_left (fun e=>by rw[e]at o;simp at o;omega);have X:=hid q;clear h q;go_enter Tryz.func173,Tryz.ntmps173
 go_wp2_with fail
 go_loopw [7,8] (fun s i wr=> ∃m:Nat,s= .int .u64 (J6 zs at_ n m)∧i= .int .i64 ((n:Int) - 1 - m)∧w=wr∧m≤n) (fun _ i _=>(intOf i+1).toNat)
 case atStart=>exact⟨0,rfl,by simp,rfl,by omega⟩
 case round=>
  obtain⟨m,rfl,rfl,rfl,Z⟩:=hrel;by_cases D:m<n
  ·have O:=X.out (at_+(n - 1 - m)) (by omega);have J:=qir _ _ (qft G o V.2 D) (qU G (show at_+(n - 1 - m)<zs.length by omega)).2;have U:(n:Int) - 1 - m=((n - 1 - m:Nat):Int):=by omega
   obtain⟨j,I⟩:=Ex (n - 1 - m);rw[U];rw[I]at O J⊢;go_wp2
   exact⟨⟨m+1,by rw[J6,I],by first|rfl|(congr 1;omega)|(congr 1),by trivial,by omega⟩,by first|(simp[intOf];done)|(simp[intOf];omega)⟩
  ·obtain rfl:m=n:=by omega
   go_wp2
   go_ret
   exact⟨by rw[qhJ];rfl,rfl⟩
def yT (dg ky fo dp lf ofs xo nd inr:Int)(sa pe:Value):Value:= .agg #[.int .i64 dg,.int .i64 ky,.int .i64 fo,.int .i64 dp,.int .u32 lf,.int .u64 ofs,.int .u32 xo,.int .i64 nd,.int .i64 inr,sa,pe]
def okC (big:Bool)(dg ky dp xo inr:Int):Prop:=(1≤dg∧dg≤(mB big:Nat))∧(0≤ky∧ky≤(mB big:Nat))∧(xo=0→1≤dp)∧(0≤inr∧inr≤(mB big:Nat))
structure okP (big:Bool)(dg ky fo dp ofs nd inr:Int):Prop where
 dg:1≤dg∧dg≤(mB big:Nat)
 ky:0≤ky∧ky≤(mB big:Nat)
 fo:0≤fo∧fo≤255
 dp:1≤dp∧dp≤255
 ofs:0≤ofs∧(big=false→ofs<281474976710656)
 nd:0≤nd∧nd≤255
 inr:0≤inr∧inr≤(mB big:Nat)
theorem qbF (big:Bool)(G U D O lf q Y o:Int)(a1 a2:Option Addr)(V Z c1 c2:Nat)(w:World)(h:okP big G U D O q Y o)(aa:V≤sB big)(X:Z≤sB big):
  Calls Tryz.prog 130 #[.int .i64 (kB big),yT G U D O lf q 0 Y o (.slice a1 V c1) (.slice a2 Z c2)] w fun e w'=>e= .returned (.int .i64 0)∧Below w.heap.size w w':=by
 obtain⟨q1,q2,q3,q4,⟨q5,J⟩,q7,q8⟩:=h;have I:=fun w=>ZK big w
 unfold yT
 cases big
 all_goals
  first
  | (have q9:=J rfl)
  | skip
  clear J;simp only[kB,mB,sB,cond]at I q1 q2 q8 aa X⊢;go_enter Tryz.func130,Tryz.ntmps130
  go_wp2_with fail
  refine(I _).mono ?_;rintro e w1 ⟨rfl,rfl⟩;iterate 6
   go_wp2_with fail
   refine(qf8 _ _ _ true (decide_eq_true (by omega)).symm _).mono ?_;rintro e w2 ⟨rfl,rfl⟩
  go_wp2_with fail
  go_ret
  exact⟨rfl,Br.alloc Nl _⟩
theorem qaq (big:Bool)(G U D O lf q Y o:Int)(a1 a2:Option Addr)(V Z c1 c2:Nat)(w:World)(h:okP big G U D O q Y o)(aa:V≤sB big)(X:Z≤sB big):
  Calls Tryz.prog 163 #[.int .i64 (kB big),yT G U D O lf q 0 Y o (.slice a1 V c1) (.slice a2 Z c2)] w fun e w'=>e= .returned (.int .i64 0)∧Below w.heap.size w w':=by
 obtain⟨⟨p1,q1⟩,⟨p2,q2⟩,⟨p3,q3⟩,⟨p4,q4⟩,⟨q5,J⟩,⟨p7,q7⟩,⟨p8,q8⟩⟩:=h;have I:=fun w=>Yf big w
 unfold yT
 cases big
 all_goals
  first
  | (have q9:=J rfl)
  | skip
  clear J;simp only[kB,mB,sB,cond]at I q1 q2 q8 aa X⊢;go_enter Tryz.func163,Tryz.ntmps163
  go_wp2_with fail
  refine(I _).mono ?_;rintro e w1 ⟨rfl,rfl⟩;go_wp2_with fail
  go_ret
  exact⟨rfl,Br.alloc Nl _⟩
end Go.Proofs.YthjoojnlnlmljaaGreat
