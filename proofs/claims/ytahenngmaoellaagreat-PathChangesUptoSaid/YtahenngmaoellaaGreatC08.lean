/- Small functions over blocks of parameters, by the program and by the reference. No condition. -/
import Derived.Test.YtahenngmaoellaaGreatC06
import Derived.Test.YtahenngmaoellaaGreatC07
set_option linter.all false
set_option maxRecDepth 100000
set_option maxHeartbeats 8000000
namespace Go.Proofs.YtahenngmaoellaaGreat
open Go.ChangeShapes Go.WideShapes Go.ChangeAt Go.RowKit Go.Joins Go.Shelf Go.Maps
open Go.Lib (hid)
attribute [local go_sem] Oper.semAt_some
def kB (big:Bool):Int:=cond big 1 2
def mB (big:Bool):Nat:=cond big 64 32
def sB (big:Bool):Nat:=cond big 16 8
theorem ZK (big:Bool)(w:World):
  Calls Tryz.prog 133 #[.int .i64 (kB big)] w fun e w'=>e= .returned (.tuple #[.int .i64 (mB big:Nat),.int .i64 (mB big:Nat),.int .i64 (sB big:Nat)])∧w'=w:=by
 cases big<;>
 ·simp only[kB,mB,sB,cond];go_enter Tryz.func133,Tryz.ntmps133
  go_wp2
  exact Bp (results_tmp3 (fn:=Tryz.f133) (t:=2) (u:=3) (v:=4) rfl _ _ _) rfl ⟨rfl,rfl⟩
theorem Ye (big:Bool)(w:World):
  Calls Tryz.prog 173 #[.int .i64 (kB big)] w fun e w'=>e= .returned (.int .i64 (mB big:Nat))∧w'=w:=by
 cases big<;>
 ·simp only[kB,mB,cond];go_enter Tryz.func173,Tryz.ntmps173
  go_wp2
  go_ret
  exact⟨rfl,rfl⟩
theorem jT (big:Bool)(w:World):
  Calls Tryz.prog 170 #[.int .i64 (kB big)] w fun e w'=>e= .returned (.int .i64 (mB big:Nat))∧w'=w:=by
 go_enter Tryz.func170,Tryz.ntmps170
 go_wp2_with fail
 refine(Ye big _).mono ?_;rintro e w1 ⟨rfl,rfl⟩;go_wp2
 go_ret
 exact⟨rfl,rfl⟩
theorem qfG (n lo hi:Int)(b:Bool)(hb:b=decide (lo≤n∧n≤hi))(w:World):
  Calls Tryz.prog 165 #[.int .i64 n,.int .i64 lo,.int .i64 hi] w fun e w'=>e= .returned (.bool b)∧w'=w:=by
 subst hb;by_cases h1:lo≤n
 ·by_cases h2:n≤hi
  ·rw[decide_eq_true (And.intro h1 h2)];go_enter Tryz.func165,Tryz.ntmps165
   go_wp2
   go_ret
   exact⟨rfl,rfl⟩
  ·rw[decide_eq_false (fun h:lo≤n∧n≤hi=>h2 h.2)];go_enter Tryz.func165,Tryz.ntmps165
   go_wp2
   go_ret
   exact⟨rfl,rfl⟩
 ·rw[decide_eq_false (fun h:lo≤n∧n≤hi=>h1 h.1)];go_enter Tryz.func165,Tryz.ntmps165
  go_wp2
  go_ret
  exact⟨rfl,rfl⟩
theorem qcQ (zs:List Int)(v:Value)(at_ n:Nat)(w:World)(h:Holds8 w v zs)(hz: ∀z∈zs,0≤z∧z≤255)(hn:1≤n∧n≤8)(hl:at_+n≤zs.length)(hm:zs.length≤4294967296):
  Calls Tryz.prog 136 #[v,.int .i64 (at_:Nat),.int .i64 (n:Nat)] w fun e w'=>e= .returned (.int .u64 (Qg zs at_ n))∧w'=w:=by
 obtain⟨a,cap,rfl,h⟩:=h;obtain⟨b,off,rfl,h1,h2⟩:=h.resolve_left (fun e=>by rw[e]at hl;simp at hl;omega);have HC:=hid h2;clear h h2;go_enter Tryz.func136,Tryz.ntmps136
 go_wp2_with fail
 go_loopw [7,10] (fun s i wr=> ∃k:Nat,s= .int .u64 (Qg zs at_ k)∧i= .int .i64 k∧w=wr∧k≤n) (fun _ i _=>n - (intOf i).toNat)
 case atStart=>exact⟨0,rfl,rfl,rfl,by omega⟩
 case round=>
  obtain⟨k,rfl,rfl,rfl,hk⟩:=hrel;by_cases hlt:k<n
  ·have hc:=HC.out (at_+k) (by omega);have hv:=orZ (Qg zs at_ k) (qn zs (at_+k)) k (by omega) (QC hz k (by omega)) (qS hz (by omega)).2;go_wp2
   exact⟨⟨k+1,rfl,rfl,by trivial,by omega⟩,by simp[intOf];omega⟩
  ·obtain rfl:k=n:=by omega
   go_wp2
   go_ret
   exact⟨rfl,rfl⟩
def JW (zs:List Int)(at_ n:Nat):Nat→Int
 | 0=>0
 | m+1=>JW zs at_ n m*256+qn zs (at_+(n - 1 - m))
theorem qdI (zs:List Int)(at_ n:Nat): ∀m,m≤n→JW zs at_ n m*2^(8*(n - m))+Qg zs at_ (n - m)=Qg zs at_ n
 | 0,_=>by simp[JW]
 | m+1,h=>by
  have ih:=qdI zs at_ n m (by omega);obtain⟨d,hd⟩: ∃d,n - m=d+1:=⟨n - m - 1,by omega⟩;have e1:n - (m+1)=d:=by omega
  have e2:n - 1 - m=d:=by omega
  rw[hd]at ih;rw[e1,←ih,JW,e2,Qg,show 8*(d+1)=8*d+8 by omega,Int.pow_add];simp only[Int.add_mul,Int.mul_add];rw[Int.mul_assoc,show(256:Int)*2^(8*d)=2^(8*d)*2^8 by rw[Int.mul_comm];rfl];omega
theorem qhn (zs:List Int)(at_ n:Nat):JW zs at_ n n=Qg zs at_ n:=by
 have:=qdI zs at_ n n Nl
 simpa [Qg] using this
theorem qan {zs:List Int}(hz: ∀z∈zs,0≤z∧z≤255){at_ n:Nat}(hl:at_+n≤zs.length): ∀m,m≤n→0≤JW zs at_ n m∧JW zs at_ n m<256^m
 | 0,_=>by simp[JW]
 | m+1,h=>by
  obtain⟨h1,h2⟩:=qan hz hl m (by omega);obtain⟨-,b1,b2⟩:=qS hz (show at_+(n - 1 - m)<zs.length by omega);simp only[JW];rw[Int.pow_succ];omega
theorem qeS {zs:List Int}(hz: ∀z∈zs,0≤z∧z≤255){at_ n:Nat}(hl:at_+n≤zs.length)(hn:n≤8){m:Nat}(hm:m<n):0≤JW zs at_ n m∧JW zs at_ n m<72057594037927936:=by
 obtain⟨h1,h2⟩:=qan hz hl m (by omega);have:m=0∨m=1∨m=2∨m=3∨m=4∨m=5∨m=6∨m=7:=by omega
 rcases this with rfl|rfl|rfl|rfl|rfl|rfl|rfl|rfl<;>simp only[Int.reducePow]at h2<;>omega
theorem qh3 (x b:Int)(hx:0≤x∧x<72057594037927936)(hb:0≤b∧b≤255):bits .or .u64 (IntKind.u64.wrap (x*256)) (IntKind.u64.wrap b)=x*256+b:=by
 rw[u64_wrap_id b hb.1 (by omega)];rw[u64_wrap_id (x*256) (by omega) (by omega)];exact bits_join .u64 64 (by decide) wraps_u64 8 (x*256) b (by omega) (by simp only[Int.reducePow];omega) (by simp only[Int.reducePow];omega) hb.1 (by simp only[Int.reducePow];omega) (by simp only[Int.reducePow];omega)
theorem Zj (zs:List Int)(v:Value)(at_ n:Nat)(w:World)(h:Holds8 w v zs)(hz: ∀z∈zs,0≤z∧z≤255)(hn:1≤n∧n≤8)(hl:at_+n≤zs.length)(hm:zs.length≤4294967296):
  Calls Tryz.prog 179 #[v,.int .i64 (at_:Nat),.int .i64 (n:Nat)] w fun e w'=>e= .returned (.int .u64 (Qg zs at_ n))∧w'=w:=by
 obtain⟨a,cap,rfl,h⟩:=h;obtain⟨b,off,rfl,h1,h2⟩:=h.resolve_left (fun e=>by rw[e]at hl;simp at hl;omega);have HC:=hid h2;clear h h2;go_enter Tryz.func179,Tryz.ntmps179
 go_wp2_with fail
 go_loopw [7,8] (fun s i wr=> ∃m:Nat,s= .int .u64 (JW zs at_ n m)∧i= .int .i64 ((n:Int) - 1 - m)∧w=wr∧m≤n) (fun _ i _=>(intOf i+1).toNat)
 case atStart=>exact⟨0,rfl,by simp,rfl,by omega⟩
 case round=>
  obtain⟨m,rfl,rfl,rfl,hk⟩:=hrel;by_cases hlt:m<n
  ·have hc:=HC.out (at_+(n - 1 - m)) (by omega);have hs:=qh3 _ _ (qeS hz hl hn.2 hlt) (qS hz (show at_+(n - 1 - m)<zs.length by omega)).2;have hi:(n:Int) - 1 - m=((n - 1 - m:Nat):Int):=by omega
   obtain⟨j,hj⟩:=Ex (n - 1 - m);rw[hi];rw[hj]at hc hs⊢;go_wp2
   exact⟨⟨m+1,by rw[JW,hj],by first|rfl|(congr 1;omega)|(congr 1),by trivial,by omega⟩,by first|(simp[intOf];done)|(simp[intOf];omega)⟩
  ·obtain rfl:m=n:=by omega
   go_wp2
   go_ret
   exact⟨by rw[qhn];rfl,rfl⟩
def parV (dg ky fo dp lf ofs xo nd inr:Int)(sa pe:Value):Value:= .agg #[.int .i64 dg,.int .i64 ky,.int .i64 fo,.int .i64 dp,.int .u32 lf,.int .u64 ofs,.int .u32 xo,.int .i64 nd,.int .i64 inr,sa,pe]
def okC (big:Bool)(dg ky dp xo inr:Int):Prop:=(1≤dg∧dg≤(mB big:Nat))∧(0≤ky∧ky≤(mB big:Nat))∧(xo=0→1≤dp)∧(0≤inr∧inr≤(mB big:Nat))
structure okP (big:Bool)(dg ky fo dp ofs nd inr:Int):Prop where
 dg:1≤dg∧dg≤(mB big:Nat)
 ky:0≤ky∧ky≤(mB big:Nat)
 fo:0≤fo∧fo≤255
 dp:1≤dp∧dp≤255
 ofs:0≤ofs∧(big=false→ofs<281474976710656)
 nd:0≤nd∧nd≤255
 inr:0≤inr∧inr≤(mB big:Nat)
theorem qbk (big:Bool)(dg ky fo dp lf ofs nd inr:Int)(a1 a2:Option Addr)(l1 l2 c1 c2:Nat)(w:World)(h:okP big dg ky fo dp ofs nd inr)(hl1:l1≤sB big)(hl2:l2≤sB big):
  Calls Tryz.prog 137 #[.int .i64 (kB big),parV dg ky fo dp lf ofs 0 nd inr (.slice a1 l1 c1) (.slice a2 l2 c2)] w fun e w'=>e= .returned (.int .i64 0)∧Below w.heap.size w w':=by
 obtain⟨q1,q2,q3,q4,⟨q5,q6⟩,q7,q8⟩:=h;have hs:=fun w=>ZK big w
 unfold parV
 cases big
 all_goals
  first
  | (have q9:=q6 rfl)
  | skip
  clear q6;simp only[kB,mB,sB,cond]at hs q1 q2 q8 hl1 hl2⊢;go_enter Tryz.func137,Tryz.ntmps137
  go_wp2_with fail
  refine(hs _).mono ?_;rintro e w1 ⟨rfl,rfl⟩;iterate 6
   go_wp2_with fail
   refine(qfG _ _ _ true (decide_eq_true (by omega)).symm _).mono ?_;rintro e w2 ⟨rfl,rfl⟩
  go_wp2_with fail
  go_ret
  exact⟨rfl,Br.alloc Nl _⟩
theorem qah (big:Bool)(dg ky fo dp lf ofs nd inr:Int)(a1 a2:Option Addr)(l1 l2 c1 c2:Nat)(w:World)(h:okP big dg ky fo dp ofs nd inr)(hl1:l1≤sB big)(hl2:l2≤sB big):
  Calls Tryz.prog 169 #[.int .i64 (kB big),parV dg ky fo dp lf ofs 0 nd inr (.slice a1 l1 c1) (.slice a2 l2 c2)] w fun e w'=>e= .returned (.int .i64 0)∧Below w.heap.size w w':=by
 obtain⟨⟨p1,q1⟩,⟨p2,q2⟩,⟨p3,q3⟩,⟨p4,q4⟩,⟨q5,q6⟩,⟨p7,q7⟩,⟨p8,q8⟩⟩:=h;have hs:=fun w=>Ye big w
 unfold parV
 cases big
 all_goals
  first
  | (have q9:=q6 rfl)
  | skip
  clear q6;simp only[kB,mB,sB,cond]at hs q1 q2 q8 hl1 hl2⊢;go_enter Tryz.func169,Tryz.ntmps169
  go_wp2_with fail
  refine(hs _).mono ?_;rintro e w1 ⟨rfl,rfl⟩;go_wp2_with fail
  go_ret
  exact⟨rfl,Br.alloc Nl _⟩
end Go.Proofs.YtahenngmaoellaaGreat
