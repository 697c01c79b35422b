/- Small functions over blocks of parameters, by the program and by the reference. No condition. -/
import Derived.Test.YtdndeffmlhaipaaGreatDoorS05
import Derived.Test.YtdndeffmlhaipaaGreatDoorS08
set_option linter.all false
set_option maxRecDepth 100000
set_option maxHeartbeats 8000000
namespace Go.Proofs.YtdndeffmlhaipaaGreatDoor
open Go.ChangeShapes Go.WideShapes Go.ChangeAt Go.RowKit Go.Joins Go.Shelf Go.Maps
open Go.Lib (hid)
attribute [local go_sem] Oper.semAt_some
def kB (big:Bool):Int:=cond big 1 2
def mB (big:Bool):Nat:=cond big 64 32
def sB (big:Bool):Nat:=cond big 16 8
theorem zH (big:Bool)(w:World):
  Calls Tryz.prog 50 #[.int .i64 (kB big)] w fun e w'=>e= .returned (.tuple #[.int .i64 (mB big:Nat),.int .i64 (mB big:Nat),.int .i64 (sB big:Nat)])∧w'=w:=by
 cases big<;>
 ·simp only[kB,mB,sB,cond];go_enter Tryz.func50,Tryz.ntmps50
  go_wp2
  exact Bp (results_tmp3 (fn:=Tryz.f50) (t:=2) (u:=3) (v:=4) rfl _ _ _) rfl ⟨rfl,rfl⟩
theorem yB (big:Bool)(w:World):
  Calls Tryz.prog 103 #[.int .i64 (kB big)] w fun e w'=>e= .returned (.int .i64 (mB big:Nat))∧w'=w:=by
 cases big<;>
 ·simp only[kB,mB,cond];go_enter Tryz.func103,Tryz.ntmps103
  go_wp2
  go_ret
  exact⟨rfl,rfl⟩
theorem ZU (big:Bool)(w:World):
  Calls Tryz.prog 100 #[.int .i64 (kB big)] w fun e w'=>e= .returned (.int .i64 (mB big:Nat))∧w'=w:=by
 go_enter Tryz.func100,Tryz.ntmps100
 go_wp2_with fail
 refine(yB big _).mono ?_;rintro e w1 ⟨rfl,rfl⟩;go_wp2
 go_ret
 exact⟨rfl,rfl⟩
theorem qdT (n lo hi:Int)(b:Bool)(hb:b=decide (lo≤n∧n≤hi))(w:World):
  Calls Tryz.prog 70 #[.int .i64 n,.int .i64 lo,.int .i64 hi] w fun e w'=>e= .returned (.bool b)∧w'=w:=by
 subst hb;by_cases h1:lo≤n
 ·by_cases h2:n≤hi
  ·rw[decide_eq_true (And.intro h1 h2)];go_enter Tryz.func70,Tryz.ntmps70
   go_wp2
   go_ret
   exact⟨rfl,rfl⟩
  ·rw[decide_eq_false (fun h:lo≤n∧n≤hi=>h2 h.2)];go_enter Tryz.func70,Tryz.ntmps70
   go_wp2
   go_ret
   exact⟨rfl,rfl⟩
 ·rw[decide_eq_false (fun h:lo≤n∧n≤hi=>h1 h.1)];go_enter Tryz.func70,Tryz.ntmps70
  go_wp2
  go_ret
  exact⟨rfl,rfl⟩
theorem qbx (zs:List Int)(v:Value)(at_ n:Nat)(w:World)(h:Holds8 w v zs)(hz: ∀z∈zs,0≤z∧z≤255)(hn:1≤n∧n≤8)(hl:at_+n≤zs.length)(hm:zs.length≤4294967296):
  Calls Tryz.prog 52 #[v,.int .i64 (at_:Nat),.int .i64 (n:Nat)] w fun e w'=>e= .returned (.int .u64 (qT zs at_ n))∧w'=w:=by
 obtain⟨a,cap,rfl,h⟩:=h;obtain⟨b,off,rfl,h1,h2⟩:=h.resolve_left (fun e=>by rw[e]at hl;simp at hl;omega);have HC:=hid h2;clear h h2;go_enter Tryz.func52,Tryz.ntmps52
 go_wp2_with fail
 go_loopw [7,10] (fun s i wr=> ∃k:Nat,s= .int .u64 (qT zs at_ k)∧i= .int .i64 k∧w=wr∧k≤n) (fun _ i _=>n - (intOf i).toNat)
 case atStart=>exact⟨0,rfl,rfl,rfl,by omega⟩
 case round=>
  obtain⟨k,rfl,rfl,rfl,hk⟩:=hrel;by_cases hlt:k<n
  ·have hc:=HC.out (at_+k) (by omega);have hv:=orZ (qT zs at_ k) (qm zs (at_+k)) k (by omega) (Qu hz k (by omega)) (qL hz (by omega)).2;go_wp2
   exact⟨⟨k+1,rfl,rfl,by trivial,by omega⟩,by simp[intOf];omega⟩
  ·obtain rfl:k=n:=by omega
   go_wp2
   go_ret
   exact⟨rfl,rfl⟩
def jI (zs:List Int)(at_ n:Nat):Nat→Int
 | 0=>0
 | m+1=>jI zs at_ n m*256+qm zs (at_+(n - 1 - m))
theorem qcg (zs:List Int)(at_ n:Nat): ∀m,m≤n→jI zs at_ n m*2^(8*(n - m))+qT zs at_ (n - m)=qT zs at_ n
 | 0,_=>by simp[jI]
 | m+1,h=>by
  have ih:=qcg zs at_ n m (by omega);obtain⟨d,hd⟩: ∃d,n - m=d+1:=⟨n - m - 1,by omega⟩;have e1:n - (m+1)=d:=by omega
  have e2:n - 1 - m=d:=by omega
  rw[hd]at ih;rw[e1,←ih,jI,e2,qT,show 8*(d+1)=8*d+8 by omega,Int.pow_add];simp only[Int.add_mul,Int.mul_add];rw[Int.mul_assoc,show(256:Int)*2^(8*d)=2^(8*d)*2^8 by rw[Int.mul_comm];rfl];omega
theorem qfi (zs:List Int)(at_ n:Nat):jI zs at_ n n=qT zs at_ n:=by
 have:=qcg zs at_ n n Nl
 simpa [qT] using this
theorem Je {zs:List Int}(hz: ∀z∈zs,0≤z∧z≤255){at_ n:Nat}(hl:at_+n≤zs.length): ∀m,m≤n→0≤jI zs at_ n m∧jI zs at_ n m<256^m
 | 0,_=>by simp[jI]
 | m+1,h=>by
  obtain⟨h1,h2⟩:=Je hz hl m (by omega);obtain⟨-,b1,b2⟩:=qL hz (show at_+(n - 1 - m)<zs.length by omega);simp only[jI];rw[Int.pow_succ];omega
theorem qdg {zs:List Int}(hz: ∀z∈zs,0≤z∧z≤255){at_ n:Nat}(hl:at_+n≤zs.length)(hn:n≤8){m:Nat}(hm:m<n):0≤jI zs at_ n m∧jI zs at_ n m<72057594037927936:=by
 obtain⟨h1,h2⟩:=Je hz hl m (by omega);have:m=0∨m=1∨m=2∨m=3∨m=4∨m=5∨m=6∨m=7:=by omega
 rcases this with rfl|rfl|rfl|rfl|rfl|rfl|rfl|rfl<;>simp only[Int.reducePow]at h2<;>omega
theorem qfU (x b:Int)(hx:0≤x∧x<72057594037927936)(hb:0≤b∧b≤255):bits .or .u64 (IntKind.u64.wrap (x*256)) (IntKind.u64.wrap b)=x*256+b:=by
 rw[u64_wrap_id b hb.1 (by omega)];rw[u64_wrap_id (x*256) (by omega) (by omega)];exact bits_join .u64 64 (by decide) wraps_u64 8 (x*256) b (by omega) (by simp only[Int.reducePow];omega) (by simp only[Int.reducePow];omega) hb.1 (by simp only[Int.reducePow];omega) (by simp only[Int.reducePow];omega)
theorem zh (zs:List Int)(v:Value)(at_ n:Nat)(w:World)(h:Holds8 w v zs)(hz: ∀z∈zs,0≤z∧z≤255)(hn:1≤n∧n≤8)(hl:at_+n≤zs.length)(hm:zs.length≤4294967296):
  Calls Tryz.prog 124 #[v,.int .i64 (at_:Nat),.int .i64 (n:Nat)] w fun e w'=>e= .returned (.int .u64 (qT zs at_ n))∧w'=w:=by
 obtain⟨a,cap,rfl,h⟩:=h;obtain⟨b,off,rfl,h1,h2⟩:=h.resolve_left (fun e=>by rw[e]at hl;simp at hl;omega);have HC:=hid h2;clear h h2;go_enter Tryz.func124,Tryz.ntmps124
 go_wp2_with fail
 go_loopw [7,8] (fun s i wr=> ∃m:Nat,s= .int .u64 (jI zs at_ n m)∧i= .int .i64 ((n:Int) - 1 - m)∧w=wr∧m≤n) (fun _ i _=>(intOf i+1).toNat)
 case atStart=>exact⟨0,rfl,by simp,rfl,by omega⟩
 case round=>
  obtain⟨m,rfl,rfl,rfl,hk⟩:=hrel;by_cases hlt:m<n
  ·have hc:=HC.out (at_+(n - 1 - m)) (by omega);have hs:=qfU _ _ (qdg hz hl hn.2 hlt) (qL hz (show at_+(n - 1 - m)<zs.length by omega)).2;have hi:(n:Int) - 1 - m=((n - 1 - m:Nat):Int):=by omega
   obtain⟨j,hj⟩:=Ex (n - 1 - m);rw[hi];rw[hj]at hc hs⊢;go_wp2
   exact⟨⟨m+1,by rw[jI,hj],by first|rfl|(congr 1;omega)|(congr 1),by trivial,by omega⟩,by first|(simp[intOf];done)|(simp[intOf];omega)⟩
  ·obtain rfl:m=n:=by omega
   go_wp2
   go_ret
   exact⟨by rw[qfi];rfl,rfl⟩
end Go.Proofs.YtdndeffmlhaipaaGreatDoor
