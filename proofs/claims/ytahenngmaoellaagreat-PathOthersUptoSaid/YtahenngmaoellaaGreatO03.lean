/- Lemmas. No condition. -/
import Derived.Test.YtahenngmaoellaaGreatO02
set_option linter.all false
set_option maxRecDepth 100000
set_option maxHeartbeats 0
namespace Go.Proofs.YtahenngmaoellaaGreat
open Go.ChangeShapes Go.WideShapes Go.ChangeAt Go.RowKit
variable{n:Nat}{m:Int}
structure TreeV where
  k:Int
  d:Int
  f:Int
  p:Int
  l:Int
  i:Int
  ka:Option Addr
  kl:Nat
  kc:Nat
  sa:Option Addr
  sl:Nat
  sc:Nat
  pa:Option Addr
  pl:Nat
  pc:Nat
abbrev TreeV.c(t:TreeV):Array Value:=#[.int .i64 t.k,.int .i64 t.d,.int .i64 t.f,.int .i64 t.p,.int .u32 t.l,.int .i64 t.i,.slice t.ka t.kl t.kc,.slice t.sa t.sl t.sc,.slice t.pa t.pl t.pc]
def TreeV.val (t:TreeV):Value:= .agg #[.int .i64 t.k,.int .i64 t.d,.int .i64 t.f,.int .i64 t.p,.int .u32 t.l,.int .i64 t.i,.slice t.ka t.kl t.kc,.slice t.sa t.sl t.sc,.slice t.pa t.pl t.pc]
def Zo (k:Int):Int:=if k=1 then 64 else if k=2 then 32 else 0
def Js (k:Int):Int:=if k=1 then 16 else if k=2 then 8 else 0
def TreeV.validE (t:TreeV):Int:=
  if t.k≠1/\t.k≠2 then 1
  else if t.d<1\/Zo t.k<t.d\/t.i<1\/Zo t.k<t.i then 90
  else if(t.f≠0/\(t.f<2\/255<t.f))\/t.p<2\/255<t.p\/t.l=0 then 90
  else if Zo t.k<t.kl then 8
  else if ¬((t.sl:Int)=0\/(t.sl:Int)=Js t.k)\/ ¬((t.pl:Int)=0\/(t.pl:Int)=Js t.k) then 90
  else 0
theorem qjG (w:World):Calls Tryz.prog 133 #[.int .i64 1] w fun e w'=>e= .returned (.tuple #[.int .i64 64,.int .i64 64,.int .i64 16])/\w=w':=by
  go_enter Tryz.func133,Tryz.ntmps133
  go_wp2
  go_ret3
  exact⟨rfl,rfl⟩
theorem qjF (w:World):Calls Tryz.prog 133 #[.int .i64 2] w fun e w'=>e= .returned (.tuple #[.int .i64 32,.int .i64 32,.int .i64 8])/\w=w':=by
  go_enter Tryz.func133,Tryz.ntmps133
  go_wp2
  go_ret3
  exact⟨rfl,rfl⟩
theorem qip (k:Int)(o:k≠1)(q:k≠2)(w:World):Calls Tryz.prog 133 #[.int .i64 k] w fun e w'=>e= .returned (.tuple #[.int .i64 0,.int .i64 0,.int .i64 0])/\w=w':=by
  have r:(k==1)=false:=by simpa using o
  have D:(k==2)=false:=by simpa using q
  go_enter Tryz.func133,Tryz.ntmps133
  go_wp2
  go_ret3
  exact⟨rfl,rfl⟩
theorem qks (w:World):Calls Tryz.prog 103 #[.int .i64 1] w fun e w'=>e= .returned (.tuple #[.int .i64 64,.int .i64 0])/\w=w':=by
  go_enter Tryz.func103,Tryz.ntmps103
  go_wp2_with (go_at_call 133;refine(qjG _).mono ?_;rintro e w' ⟨rfl,rfl⟩)
  go_ret2
  exact⟨rfl,rfl⟩
theorem qkr (w:World):Calls Tryz.prog 103 #[.int .i64 2] w fun e w'=>e= .returned (.tuple #[.int .i64 32,.int .i64 0])/\w=w':=by
  go_enter Tryz.func103,Tryz.ntmps103
  go_wp2_with (go_at_call 133;refine(qjF _).mono ?_;rintro e w' ⟨rfl,rfl⟩)
  go_ret2
  exact⟨rfl,rfl⟩
theorem qjV (k:Int)(o:k≠1)(q:k≠2)(w:World):Calls Tryz.prog 103 #[.int .i64 k] w fun e w'=>e= .returned (.tuple #[.int .i64 0,.int .i64 1])/\w=w':=by
  go_enter Tryz.func103,Tryz.ntmps103
  go_wp2_with (go_at_call 133;refine(qip k o q _).mono ?_;rintro e w' ⟨rfl,rfl⟩)
  go_ret2
  exact⟨rfl,rfl⟩
theorem qii (t:TreeV)(o:t.k≠1)(q:t.k≠2)(w:World):Calls Tryz.prog 60 #[t.val] w fun e w'=>e= .returned (.int .i64 1)/\Below w.heap.size w w':=by
  unfold TreeV.val;go_enter Tryz.func60,Tryz.ntmps60
  go_wp2_with (go_at_call 103;refine(qjV t.k o q _).mono ?_;rintro e w' ⟨rfl,rfl⟩)
  go_ret
  exact⟨rfl,by repeat(first|exact Below.refl _ _|(refine Below.alloc ?_ (by simp) _))⟩
def ju (n:Nat)(m:Int):Bool:=decide ((n:Int)=0\/(n:Int)=m)
theorem YL :(ju n m=true)↔((n:Int)=0\/(n:Int)=m):=by simp[ju]
theorem Zp :(ju n m=false)↔ ¬((n:Int)=0\/(n:Int)=m):=by rw[<-Bool.not_eq_true,YL]
theorem ZY {k:IntKind}{a b:Int}(h:a=b):Ending.returned (.int k a)= .returned (.int k b):=by rw[h]
theorem qjI (a:Option Addr)(l c b:Nat)(w:World)(I:w.cell? ⟨b,0,none⟩=some (.int .i64 64)):
    Calls Tryz.prog 104 #[.slice a l c,.pointer (some ⟨b,0,none⟩)] w fun e w'=>e= .returned (.bool (ju l 16))/\w=w':=by
  by_cases q:(l:Int)=0
  · have D:((l:Int)==0)=true:=by simpa using q
    have o:ju l 16=true:=YL.2 (.inl q);rw[o];go_enter Tryz.func104,Tryz.ntmps104
    go_wp2
    go_ret
    exact⟨rfl,rfl⟩
  · have D:((l:Int)==0)=false:=by simpa using q
    by_cases r:(l:Int)=16
    · have G:((l:Int)==16)=true:=by simpa using r
      have o:ju l 16=true:=YL.2 (.inr r);rw[o];go_enter Tryz.func104,Tryz.ntmps104
      go_wp2
      go_ret
      exact⟨rfl,rfl⟩
    · have G:((l:Int)==16)=false:=by simpa using r
      have o:ju l 16=false:=Zp.2 (fun h=>h.elim q r);rw[o];go_enter Tryz.func104,Tryz.ntmps104
      go_wp2
      go_ret
      exact⟨rfl,rfl⟩
theorem qjJ (a:Option Addr)(l c b:Nat)(w:World)(I:w.cell? ⟨b,0,none⟩=some (.int .i64 32)):
    Calls Tryz.prog 104 #[.slice a l c,.pointer (some ⟨b,0,none⟩)] w fun e w'=>e= .returned (.bool (ju l 8))/\w=w':=by
  by_cases q:(l:Int)=0
  · have D:((l:Int)==0)=true:=by simpa using q
    have o:ju l 8=true:=YL.2 (.inl q);rw[o];go_enter Tryz.func104,Tryz.ntmps104
    go_wp2
    go_ret
    exact⟨rfl,rfl⟩
  · have D:((l:Int)==0)=false:=by simpa using q
    by_cases r:(l:Int)=8
    · have G:((l:Int)==8)=true:=by simpa using r
      have o:ju l 8=true:=YL.2 (.inr r);rw[o];go_enter Tryz.func104,Tryz.ntmps104
      go_wp2
      go_ret
      exact⟨rfl,rfl⟩
    · have G:((l:Int)==8)=false:=by simpa using r
      have o:ju l 8=false:=Zp.2 (fun h=>h.elim q r);rw[o];go_enter Tryz.func104,Tryz.ntmps104
      go_wp2
      go_ret
      exact⟨rfl,rfl⟩
theorem qjB (t:TreeV)(r:t.k=1)(w:World):Calls Tryz.prog 60 #[t.val] w fun e w'=>e= .returned (.int .i64 t.validE)/\Below w.heap.size w w':=by
  obtain⟨k,d,f,p,l,i,U,J,I,D,V,O,X,S,G⟩:=t;obtain rfl:k=1:=r;have o:Zo 1=64:=rfl;have q:Js 1=16:=rfl;simp only[TreeV.val];go_enter Tryz.func60,Tryz.ntmps60
  go_wp2_with (first|(go_at_call 103;refine(qks _).mono ?_;rintro e w' ⟨rfl,rfl⟩)|(go_at_call 104;refine(qjI _ _ _ _ _ (by simp[go_sem])).mono ?_;rintro e w' ⟨rfl,rfl⟩))
  all_goals go_ret
  all_goals refine⟨ZY ?_,by repeat(first|exact Below.refl _ _|(refine Below.alloc ?_ (by simp) _))⟩
  all_goals try simp only[beq_iff_eq,beq_eq_false_iff_ne,bne_iff_ne,bne_eq_false_iff_eq,YL,Zp,Bool.not_eq_true',Bool.not_eq_false']at*
  all_goals simp only[TreeV.validE,o,q]
  all_goals(repeat' split)<;>omega
theorem qjA (t:TreeV)(r:t.k=2)(w:World):Calls Tryz.prog 60 #[t.val] w fun e w'=>e= .returned (.int .i64 t.validE)/\Below w.heap.size w w':=by
  obtain⟨k,d,f,p,l,i,U,J,I,D,V,O,X,S,G⟩:=t;obtain rfl:k=2:=r;have o:Zo 2=32:=rfl;have q:Js 2=8:=rfl;simp only[TreeV.val];go_enter Tryz.func60,Tryz.ntmps60
  go_wp2_with (first|(go_at_call 103;refine(qkr _).mono ?_;rintro e w' ⟨rfl,rfl⟩)|(go_at_call 104;refine(qjJ _ _ _ _ _ (by simp[go_sem])).mono ?_;rintro e w' ⟨rfl,rfl⟩))
  all_goals go_ret
  all_goals refine⟨ZY ?_,by repeat(first|exact Below.refl _ _|(refine Below.alloc ?_ (by simp) _))⟩
  all_goals try simp only[beq_iff_eq,beq_eq_false_iff_ne,bne_iff_ne,bne_eq_false_iff_eq,YL,Zp,Bool.not_eq_true',Bool.not_eq_false']at*
  all_goals simp only[TreeV.validE,o,q]
  all_goals(repeat' split)<;>omega
