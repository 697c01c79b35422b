/- The walks of Valid, on both sides: which trees may be. No condition. -/
import Derived.Test.YtdndeffmlhaipaaGreatDoorM02
set_option linter.all false
set_option maxRecDepth 100000
set_option maxHeartbeats 8000000
namespace Go.Proofs.YtdndeffmlhaipaaGreatDoor
open Go.ChangeShapes Go.WideShapes Go.ChangeAt Go.RowKit
structure TreeV where
  k:Int
  d:Int
  f:Int
  p:Int
  l:Int
  i:Int
  ka:Option Addr
  kl:Nat
  kc:Nat
  sa:Option Addr
  sl:Nat
  sc:Nat
  pa:Option Addr
  pl:Nat
  pc:Nat
def TreeV.val (t:TreeV):Value:= .agg #[.int .i64 t.k,.int .i64 t.d,.int .i64 t.f,.int .i64 t.p,.int .u32 t.l,.int .i64 t.i,.slice t.ka t.kl t.kc,.slice t.sa t.sl t.sc,.slice t.pa t.pl t.pc]
def YU (k:Int):Int:=if k=1 then 64 else if k=2 then 32 else 0
def jp (k:Int):Int:=if k=1 then 16 else if k=2 then 8 else 0
def TreeV.validE (t:TreeV):Int:=
  if t.k≠1∧t.k≠2 then 1
  else if t.d<1∨YU t.k<t.d∨t.i<1∨YU t.k<t.i then 90
  else if(t.f≠0∧(t.f<2∨255<t.f))∨t.p<2∨255<t.p∨t.l=0 then 90
  else if YU t.k<t.kl then 8
  else if ¬((t.sl:Int)=0∨(t.sl:Int)=jp t.k)∨ ¬((t.pl:Int)=0∨(t.pl:Int)=jp t.k) then 90
  else 0
theorem qeK (w:World):Calls Tryz.prog 50 #[.int .i64 1] w fun e w'=>e= .returned (.tuple #[.int .i64 64,.int .i64 64,.int .i64 16])∧w=w':=by
  go_enter Tryz.func50,Tryz.ntmps50
  go_wp2
  go_ret3
  exact⟨rfl,rfl⟩
theorem qeJ (w:World):Calls Tryz.prog 50 #[.int .i64 2] w fun e w'=>e= .returned (.tuple #[.int .i64 32,.int .i64 32,.int .i64 8])∧w=w':=by
  go_enter Tryz.func50,Tryz.ntmps50
  go_wp2
  go_ret3
  exact⟨rfl,rfl⟩
theorem qdM (k:Int)(h1:k≠1)(h2:k≠2)(w:World):Calls Tryz.prog 50 #[.int .i64 k] w fun e w'=>e= .returned (.tuple #[.int .i64 0,.int .i64 0,.int .i64 0])∧w=w':=by
  have e1:(k==1)=false:=by simpa using h1
  have e2:(k==2)=false:=by simpa using h2
  go_enter Tryz.func50,Tryz.ntmps50
  go_wp2
  go_ret3
  exact⟨rfl,rfl⟩
theorem qfj (w:World):Calls Tryz.prog 40 #[.int .i64 1] w fun e w'=>e= .returned (.tuple #[.int .i64 64,.int .i64 0])∧w=w':=by
  go_enter Tryz.func40,Tryz.ntmps40
  go_wp2_with (go_at_call 50;refine(qeK _).mono ?_;rintro e w' ⟨rfl,rfl⟩)
  go_ret2
  exact⟨rfl,rfl⟩
theorem qfi (w:World):Calls Tryz.prog 40 #[.int .i64 2] w fun e w'=>e= .returned (.tuple #[.int .i64 32,.int .i64 0])∧w=w':=by
  go_enter Tryz.func40,Tryz.ntmps40
  go_wp2_with (go_at_call 50;refine(qeJ _).mono ?_;rintro e w' ⟨rfl,rfl⟩)
  go_ret2
  exact⟨rfl,rfl⟩
theorem qeU (k:Int)(h1:k≠1)(h2:k≠2)(w:World):Calls Tryz.prog 40 #[.int .i64 k] w fun e w'=>e= .returned (.tuple #[.int .i64 0,.int .i64 1])∧w=w':=by
  go_enter Tryz.func40,Tryz.ntmps40
  go_wp2_with (go_at_call 50;refine(qdM k h1 h2 _).mono ?_;rintro e w' ⟨rfl,rfl⟩)
  go_ret2
  exact⟨rfl,rfl⟩
theorem qdK (t:TreeV)(h1:t.k≠1)(h2:t.k≠2)(w:World):Calls Tryz.prog 22 #[t.val] w fun e w'=>e= .returned (.int .i64 1)∧Below w.heap.size w w':=by
  unfold TreeV.val;go_enter Tryz.func22,Tryz.ntmps22
  go_wp2_with (go_at_call 40;refine(qeU t.k h1 h2 _).mono ?_;rintro e w' ⟨rfl,rfl⟩)
  go_ret
  exact⟨rfl,by repeat(first|exact Below.refl _ _|(refine Below.alloc ?_ (by simp) _))⟩
def zb (n:Nat)(m:Int):Bool:=decide ((n:Int)=0∨(n:Int)=m)
theorem QZ {n:Nat}{m:Int}:(zb n m=true)↔((n:Int)=0∨(n:Int)=m):=by simp[zb]
theorem Yg {n:Nat}{m:Int}:(zb n m=false)↔ ¬((n:Int)=0∨(n:Int)=m):=by rw[←Bool.not_eq_true,QZ]
theorem ZC {k:IntKind}{a b:Int}(h:a=b):Ending.returned (.int k a)= .returned (.int k b):=by rw[h]
theorem qeL (a:Option Addr)(l c b:Nat)(w:World)(hc:w.cell? ⟨b,0,none⟩=some (.int .i64 64)):
    Calls Tryz.prog 41 #[.slice a l c,.pointer (some ⟨b,0,none⟩)] w fun e w'=>e= .returned (.bool (zb l 16))∧w=w':=by
  by_cases h0:(l:Int)=0
  · have e1:((l:Int)==0)=true:=by simpa using h0
    have e2:zb l 16=true:=QZ.2 (.inl h0);rw[e2];go_enter Tryz.func41,Tryz.ntmps41
    go_wp2
    go_ret
    exact⟨rfl,rfl⟩
  · have e1:((l:Int)==0)=false:=by simpa using h0
    by_cases h1:(l:Int)=16
    · have e3:((l:Int)==16)=true:=by simpa using h1
      have e2:zb l 16=true:=QZ.2 (.inr h1);rw[e2];go_enter Tryz.func41,Tryz.ntmps41
      go_wp2
      go_ret
      exact⟨rfl,rfl⟩
    · have e3:((l:Int)==16)=false:=by simpa using h1
      have e2:zb l 16=false:=Yg.2 (fun h=>h.elim h0 h1);rw[e2];go_enter Tryz.func41,Tryz.ntmps41
      go_wp2
      go_ret
      exact⟨rfl,rfl⟩
theorem qeM (a:Option Addr)(l c b:Nat)(w:World)(hc:w.cell? ⟨b,0,none⟩=some (.int .i64 32)):
    Calls Tryz.prog 41 #[.slice a l c,.pointer (some ⟨b,0,none⟩)] w fun e w'=>e= .returned (.bool (zb l 8))∧w=w':=by
  by_cases h0:(l:Int)=0
  · have e1:((l:Int)==0)=true:=by simpa using h0
    have e2:zb l 8=true:=QZ.2 (.inl h0);rw[e2];go_enter Tryz.func41,Tryz.ntmps41
    go_wp2
    go_ret
    exact⟨rfl,rfl⟩
  · have e1:((l:Int)==0)=false:=by simpa using h0
    by_cases h1:(l:Int)=8
    · have e3:((l:Int)==8)=true:=by simpa using h1
      have e2:zb l 8=true:=QZ.2 (.inr h1);rw[e2];go_enter Tryz.func41,Tryz.ntmps41
      go_wp2
      go_ret
      exact⟨rfl,rfl⟩
    · have e3:((l:Int)==8)=false:=by simpa using h1
      have e2:zb l 8=false:=Yg.2 (fun h=>h.elim h0 h1);rw[e2];go_enter Tryz.func41,Tryz.ntmps41
      go_wp2
      go_ret
      exact⟨rfl,rfl⟩
theorem qeH (t:TreeV)(h1:t.k=1)(w:World):Calls Tryz.prog 22 #[t.val] w fun e w'=>e= .returned (.int .i64 t.validE)∧Below w.heap.size w w':=by
  obtain⟨k,d,f,p,l,i,ka,kl,kc,sa,sl,sc,pa,pl,pc⟩:=t;obtain rfl:k=1:=h1;have e_1:YU 1=64:=rfl;have e_2:jp 1=16:=rfl;simp only[TreeV.val];go_enter Tryz.func22,Tryz.ntmps22
  go_wp2_with (first|(go_at_call 40;refine(qfj _).mono ?_;rintro e w' ⟨rfl,rfl⟩)|(go_at_call 41;refine(qeL _ _ _ _ _ (by simp[go_sem])).mono ?_;rintro e w' ⟨rfl,rfl⟩))
  all_goals go_ret
  all_goals refine⟨ZC ?_,by repeat(first|exact Below.refl _ _|(refine Below.alloc ?_ (by simp) _))⟩
  all_goals try simp only[beq_iff_eq,beq_eq_false_iff_ne,bne_iff_ne,bne_eq_false_iff_eq,QZ,Yg,Bool.not_eq_true',Bool.not_eq_false']at*
  all_goals simp only[TreeV.validE,e_1,e_2]
  all_goals(repeat' split)<;>omega
theorem qeG (t:TreeV)(h1:t.k=2)(w:World):Calls Tryz.prog 22 #[t.val] w fun e w'=>e= .returned (.int .i64 t.validE)∧Below w.heap.size w w':=by
  obtain⟨k,d,f,p,l,i,ka,kl,kc,sa,sl,sc,pa,pl,pc⟩:=t;obtain rfl:k=2:=h1;have e_1:YU 2=32:=rfl;have e_2:jp 2=8:=rfl;simp only[TreeV.val];go_enter Tryz.func22,Tryz.ntmps22
  go_wp2_with (first|(go_at_call 40;refine(qfi _).mono ?_;rintro e w' ⟨rfl,rfl⟩)|(go_at_call 41;refine(qeM _ _ _ _ _ (by simp[go_sem])).mono ?_;rintro e w' ⟨rfl,rfl⟩))
  all_goals go_ret
  all_goals refine⟨ZC ?_,by repeat(first|exact Below.refl _ _|(refine Below.alloc ?_ (by simp) _))⟩
  all_goals try simp only[beq_iff_eq,beq_eq_false_iff_ne,bne_iff_ne,bne_eq_false_iff_eq,QZ,Yg,Bool.not_eq_true',Bool.not_eq_false']at*
  all_goals simp only[TreeV.validE,e_1,e_2]
  all_goals(repeat' split)<;>omega
end Go.Proofs.YtdndeffmlhaipaaGreatDoor
