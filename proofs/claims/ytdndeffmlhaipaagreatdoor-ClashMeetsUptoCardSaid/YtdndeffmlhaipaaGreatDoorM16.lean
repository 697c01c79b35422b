/- Small functions over blocks of parameters, by the program and by the reference. No condition. -/
import Derived.Test.YtdndeffmlhaipaaGreatDoorM05
import Derived.Test.YtdndeffmlhaipaaGreatDoorM08
set_option linter.all false
set_option maxRecDepth 100000
set_option maxHeartbeats 8000000
namespace Go.Proofs.YtdndeffmlhaipaaGreatDoor
open Go.ChangeShapes Go.WideShapes Go.ChangeAt Go.RowKit Go.Joins Go.Shelf Go.Maps
open Go.Lib (hid)
attribute [local go_sem] Oper.semAt_some
def kB (big:Bool):Int:=cond big 1 2
def mB (big:Bool):Nat:=cond big 64 32
def sB (big:Bool):Nat:=cond big 16 8
theorem za (big:Bool)(w:World):
  Calls Tryz.prog 50 #[.int .i64 (kB big)] w fun e w'=>e= .returned (.tuple #[.int .i64 (mB big:Nat),.int .i64 (mB big:Nat),.int .i64 (sB big:Nat)])∧w'=w:=by
 cases big<;>
 ·simp only[kB,mB,sB,cond];go_enter Tryz.func50,Tryz.ntmps50
  go_wp2
  exact Bp (results_tmp3 (fn:=Tryz.f50) (t:=2) (u:=3) (v:=4) rfl _ _ _) rfl ⟨rfl,rfl⟩
theorem qc0 (n lo hi:Int)(b:Bool)(hb:b=decide (lo≤n∧n≤hi))(w:World):
  Calls Tryz.prog 70 #[.int .i64 n,.int .i64 lo,.int .i64 hi] w fun e w'=>e= .returned (.bool b)∧w'=w:=by
 subst hb;by_cases h1:lo≤n
 ·by_cases h2:n≤hi
  ·rw[decide_eq_true (And.intro h1 h2)];go_enter Tryz.func70,Tryz.ntmps70
   go_wp2
   go_ret
   exact⟨rfl,rfl⟩
  ·rw[decide_eq_false (fun h:lo≤n∧n≤hi=>h2 h.2)];go_enter Tryz.func70,Tryz.ntmps70
   go_wp2
   go_ret
   exact⟨rfl,rfl⟩
 ·rw[decide_eq_false (fun h:lo≤n∧n≤hi=>h1 h.1)];go_enter Tryz.func70,Tryz.ntmps70
  go_wp2
  go_ret
  exact⟨rfl,rfl⟩
theorem qaK (zs:List Int)(v:Value)(at_ n:Nat)(w:World)(h:Holds8 w v zs)(hz: ∀z∈zs,0≤z∧z≤255)(hn:1≤n∧n≤8)(hl:at_+n≤zs.length)(hm:zs.length≤4294967296):
  Calls Tryz.prog 52 #[v,.int .i64 (at_:Nat),.int .i64 (n:Nat)] w fun e w'=>e= .returned (.int .u64 (yj zs at_ n))∧w'=w:=by
 obtain⟨a,cap,rfl,h⟩:=h;obtain⟨b,off,rfl,h1,h2⟩:=h.resolve_left (fun e=>by rw[e]at hl;simp at hl;omega);have HC:=hid h2;clear h h2;go_enter Tryz.func52,Tryz.ntmps52
 go_wp2_with fail
 go_loopw [7,10] (fun s i wr=> ∃k:Nat,s= .int .u64 (yj zs at_ k)∧i= .int .i64 k∧w=wr∧k≤n) (fun _ i _=>n - (intOf i).toNat)
 case atStart=>exact⟨0,rfl,rfl,rfl,by omega⟩
 case round=>
  obtain⟨k,rfl,rfl,rfl,hk⟩:=hrel;by_cases hlt:k<n
  ·have hc:=HC.out (at_+k) (by omega);have hv:=orZ (yj zs at_ k) (qp zs (at_+k)) k (by omega) (qY hz k (by omega)) (qX hz (by omega)).2;go_wp2
   exact⟨⟨k+1,rfl,rfl,by trivial,by omega⟩,by simp[intOf];omega⟩
  ·obtain rfl:k=n:=by omega
   go_wp2
   go_ret
   exact⟨rfl,rfl⟩
end Go.Proofs.YtdndeffmlhaipaaGreatDoor
