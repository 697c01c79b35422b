/- The walks of Valid, on both sides: which trees may be. No condition. -/
import Derived.Test.YthjoojnlnlmljaaGreatG02
set_option linter.all false
set_option maxRecDepth 100000
set_option maxHeartbeats 8000000
namespace Go.Proofs.YthjoojnlnlmljaaGreat
open Go.ChangeShapes Go.WideShapes Go.ChangeAt Go.RowKit
structure TreeV where
  k:Int
  d:Int
  f:Int
  p:Int
  l:Int
  i:Int
  ka:Option Addr
  kl:Nat
  kc:Nat
  sa:Option Addr
  sl:Nat
  sc:Nat
  pa:Option Addr
  pl:Nat
  pc:Nat
def TreeV.val (t:TreeV):Value:= .agg #[.int .i64 t.k,.int .i64 t.d,.int .i64 t.f,.int .i64 t.p,.int .u32 t.l,.int .i64 t.i,.slice t.ka t.kl t.kc,.slice t.sa t.sl t.sc,.slice t.pa t.pl t.pc]
def zt (k:Int):Int:=if k=1 then 64 else if k=2 then 32 else 0
def jJ (k:Int):Int:=if k=1 then 16 else if k=2 then 8 else 0
def TreeV.validE (t:TreeV):Int:=
  if t.k≠1∧t.k≠2 then 1
  else if t.d<1∨zt t.k<t.d∨t.i<1∨zt t.k<t.i then 90
  else if(t.f≠0∧(t.f<2∨255<t.f))∨t.p<2∨255<t.p∨t.l=0 then 90
  else if zt t.k<t.kl then 8
  else if ¬((t.sl:Int)=0∨(t.sl:Int)=jJ t.k)∨ ¬((t.pl:Int)=0∨(t.pl:Int)=jJ t.k) then 90
  else 0
theorem qij (w:World):Calls Tryz.prog 126 #[.int .i64 1] w fun e w'=>e= .returned (.tuple #[.int .i64 64,.int .i64 64,.int .i64 16])∧w=w':=by
  go_enter Tryz.func126,Tryz.ntmps126
  go_wp2
  go_ret3
  exact⟨rfl,rfl⟩
theorem qii (w:World):Calls Tryz.prog 126 #[.int .i64 2] w fun e w'=>e= .returned (.tuple #[.int .i64 32,.int .i64 32,.int .i64 8])∧w=w':=by
  go_enter Tryz.func126,Tryz.ntmps126
  go_wp2
  go_ret3
  exact⟨rfl,rfl⟩
theorem qg8 (k:Int)(q:k≠1)(o:k≠2)(w:World):Calls Tryz.prog 126 #[.int .i64 k] w fun e w'=>e= .returned (.tuple #[.int .i64 0,.int .i64 0,.int .i64 0])∧w=w':=by
  have D:(k==1)=false:=by simpa using q
  have G:(k==2)=false:=by simpa using o
  go_enter Tryz.func126,Tryz.ntmps126
  go_wp2
  go_ret3
  exact⟨rfl,rfl⟩
theorem qiX (w:World):Calls Tryz.prog 94 #[.int .i64 1] w fun e w'=>e= .returned (.tuple #[.int .i64 64,.int .i64 0])∧w=w':=by
  go_enter Tryz.func94,Tryz.ntmps94
  go_wp2_with (go_at_call 126;refine(qij _).mono ?_;rintro e w' ⟨rfl,rfl⟩)
  go_ret2
  exact⟨rfl,rfl⟩
theorem qiW (w:World):Calls Tryz.prog 94 #[.int .i64 2] w fun e w'=>e= .returned (.tuple #[.int .i64 32,.int .i64 0])∧w=w':=by
  go_enter Tryz.func94,Tryz.ntmps94
  go_wp2_with (go_at_call 126;refine(qii _).mono ?_;rintro e w' ⟨rfl,rfl⟩)
  go_ret2
  exact⟨rfl,rfl⟩
theorem qiu (k:Int)(q:k≠1)(o:k≠2)(w:World):Calls Tryz.prog 94 #[.int .i64 k] w fun e w'=>e= .returned (.tuple #[.int .i64 0,.int .i64 1])∧w=w':=by
  go_enter Tryz.func94,Tryz.ntmps94
  go_wp2_with (go_at_call 126;refine(qg8 k q o _).mono ?_;rintro e w' ⟨rfl,rfl⟩)
  go_ret2
  exact⟨rfl,rfl⟩
theorem qg2 (t:TreeV)(q:t.k≠1)(o:t.k≠2)(w:World):Calls Tryz.prog 56 #[t.val] w fun e w'=>e= .returned (.int .i64 1)∧Below w.heap.size w w':=by
  unfold TreeV.val;go_enter Tryz.func56,Tryz.ntmps56
  go_wp2_with (go_at_call 94;refine(qiu t.k q o _).mono ?_;rintro e w' ⟨rfl,rfl⟩)
  go_ret
  exact⟨rfl,by repeat(first|exact Below.refl _ _|(refine Below.alloc ?_ (by simp) _))⟩
def ZL (n:Nat)(m:Int):Bool:=decide ((n:Int)=0∨(n:Int)=m)
theorem Ye {n:Nat}{m:Int}:(ZL n m=true)↔((n:Int)=0∨(n:Int)=m):=by simp[ZL]
theorem zu {n:Nat}{m:Int}:(ZL n m=false)↔ ¬((n:Int)=0∨(n:Int)=m):=by rw[←Bool.not_eq_true,Ye]
theorem Zg {k:IntKind}{a b:Int}(h:a=b):Ending.returned (.int k a)= .returned (.int k b):=by rw[h]
theorem qik (a:Option Addr)(l c b:Nat)(w:World)(J:w.cell? ⟨b,0,none⟩=some (.int .i64 64)):
    Calls Tryz.prog 95 #[.slice a l c,.pointer (some ⟨b,0,none⟩)] w fun e w'=>e= .returned (.bool (ZL l 16))∧w=w':=by
  by_cases q:(l:Int)=0
  · have G:((l:Int)==0)=true:=by simpa using q
    have o:ZL l 16=true:=Ye.2 (.inl q);rw[o];go_enter Tryz.func95,Tryz.ntmps95
    go_wp2
    go_ret
    exact⟨rfl,rfl⟩
  · have G:((l:Int)==0)=false:=by simpa using q
    by_cases D:(l:Int)=16
    · have I:((l:Int)==16)=true:=by simpa using D
      have o:ZL l 16=true:=Ye.2 (.inr D);rw[o];go_enter Tryz.func95,Tryz.ntmps95
      go_wp2
      go_ret
      exact⟨rfl,rfl⟩
    · have I:((l:Int)==16)=false:=by simpa using D
      have o:ZL l 16=false:=zu.2 (fun h=>h.elim q D);rw[o];go_enter Tryz.func95,Tryz.ntmps95
      go_wp2
      go_ret
      exact⟨rfl,rfl⟩
theorem qil (a:Option Addr)(l c b:Nat)(w:World)(J:w.cell? ⟨b,0,none⟩=some (.int .i64 32)):
    Calls Tryz.prog 95 #[.slice a l c,.pointer (some ⟨b,0,none⟩)] w fun e w'=>e= .returned (.bool (ZL l 8))∧w=w':=by
  by_cases q:(l:Int)=0
  · have G:((l:Int)==0)=true:=by simpa using q
    have o:ZL l 8=true:=Ye.2 (.inl q);rw[o];go_enter Tryz.func95,Tryz.ntmps95
    go_wp2
    go_ret
    exact⟨rfl,rfl⟩
  · have G:((l:Int)==0)=false:=by simpa using q
    by_cases D:(l:Int)=8
    · have I:((l:Int)==8)=true:=by simpa using D
      have o:ZL l 8=true:=Ye.2 (.inr D);rw[o];go_enter Tryz.func95,Tryz.ntmps95
      go_wp2
      go_ret
      exact⟨rfl,rfl⟩
    · have I:((l:Int)==8)=false:=by simpa using D
      have o:ZL l 8=false:=zu.2 (fun h=>h.elim q D);rw[o];go_enter Tryz.func95,Tryz.ntmps95
      go_wp2
      go_ret
      exact⟨rfl,rfl⟩
theorem qif (t:TreeV)(D:t.k=1)(w:World):Calls Tryz.prog 56 #[t.val] w fun e w'=>e= .returned (.int .i64 t.validE)∧Below w.heap.size w w':=by
  obtain⟨k,d,f,p,l,i,U,J,V,Z,X,O,I,Y,G⟩:=t;obtain rfl:k=1:=D;have o:zt 1=64:=rfl;have q:jJ 1=16:=rfl;simp only[TreeV.val];go_enter Tryz.func56,Tryz.ntmps56
  go_wp2_with (first|(go_at_call 94;refine(qiX _).mono ?_;rintro e w' ⟨rfl,rfl⟩)|(go_at_call 95;refine(qik _ _ _ _ _ (by simp[go_sem])).mono ?_;rintro e w' ⟨rfl,rfl⟩))
  all_goals go_ret
  all_goals refine⟨Zg ?_,by repeat(first|exact Below.refl _ _|(refine Below.alloc ?_ (by simp) _))⟩
  all_goals try simp only[beq_iff_eq,beq_eq_false_iff_ne,bne_iff_ne,bne_eq_false_iff_eq,Ye,zu,Bool.not_eq_true',Bool.not_eq_false']at*
  all_goals simp only[TreeV.validE,o,q]
  all_goals(repeat' split)<;>omega
theorem qie (t:TreeV)(D:t.k=2)(w:World):Calls Tryz.prog 56 #[t.val] w fun e w'=>e= .returned (.int .i64 t.validE)∧Below w.heap.size w w':=by
  obtain⟨k,d,f,p,l,i,U,J,V,Z,X,O,I,Y,G⟩:=t;obtain rfl:k=2:=D;have o:zt 2=32:=rfl;have q:jJ 2=8:=rfl;simp only[TreeV.val];go_enter Tryz.func56,Tryz.ntmps56
  go_wp2_with (first|(go_at_call 94;refine(qiW _).mono ?_;rintro e w' ⟨rfl,rfl⟩)|(go_at_call 95;refine(qil _ _ _ _ _ (by simp[go_sem])).mono ?_;rintro e w' ⟨rfl,rfl⟩))
  all_goals go_ret
  all_goals refine⟨Zg ?_,by repeat(first|exact Below.refl _ _|(refine Below.alloc ?_ (by simp) _))⟩
  all_goals try simp only[beq_iff_eq,beq_eq_false_iff_ne,bne_iff_ne,bne_eq_false_iff_eq,Ye,zu,Bool.not_eq_true',Bool.not_eq_false']at*
  all_goals simp only[TreeV.validE,o,q]
  all_goals(repeat' split)<;>omega
end Go.Proofs.YthjoojnlnlmljaaGreat
