/- Lemmas. No condition. -/
import Derived.Test.YtahenngmaoellaaGreatP00
import Derived.Test.YtahenngmaoellaaGreatO03
set_option linter.all false
set_option maxRecDepth 100000
set_option maxHeartbeats 0
namespace Go.Proofs.YtahenngmaoellaaGreat
open Go.ChangeShapes Go.WideShapes Go.ChangeAt Go.RowKit
open Go.Lib (hid)
theorem qf7 (w:World):Calls Tryz.prog 105 #[.int .i64 1] w fun e w'=>e= .returned (.tuple #[.int .i64 64,.int .i64 16])/\w=w':=by
  go_enter Tryz.func105,Tryz.ntmps105
  go_wp2
  go_ret2
  exact⟨rfl,rfl⟩
theorem qf6 (w:World):Calls Tryz.prog 105 #[.int .i64 2] w fun e w'=>e= .returned (.tuple #[.int .i64 32,.int .i64 8])/\w=w':=by
  go_enter Tryz.func105,Tryz.ntmps105
  go_wp2
  go_ret2
  exact⟨rfl,rfl⟩
theorem qeL (k:Int)(o:k≠1)(q:k≠2)(w:World):Calls Tryz.prog 105 #[.int .i64 k] w fun e w'=>e= .returned (.tuple #[.int .i64 0,.int .i64 0])/\w=w':=by
  have r:(k==1)=false:=by simpa using o
  have D:(k==2)=false:=by simpa using q
  go_enter Tryz.func105,Tryz.ntmps105
  go_wp2
  go_ret2
  exact⟨rfl,rfl⟩
theorem qeI (t:TreeV)(o:t.k≠1)(q:t.k≠2)(w:World):Calls Tryz.prog 62 #[t.val] w fun e w'=>e= .returned (.int .i64 1)/\Below w.heap.size w w':=by
  unfold TreeV.val;go_enter Tryz.func62,Tryz.ntmps62
  go_wp2_with (go_at_call 105;refine(qeL t.k o q _).mono ?_;rintro e w' ⟨rfl,rfl⟩)
  go_ret
  exact⟨rfl,by repeat(first|exact Below.refl _ _|(refine Below.alloc ?_ (by simp) _))⟩
theorem qf3 (t:TreeV)(r:t.k=1)(w:World):Calls Tryz.prog 62 #[t.val] w fun e w'=>e= .returned (.int .i64 t.validE)/\Below w.heap.size w w':=by
  obtain⟨k,d,f,p,l,i,U,J,I,D,V,O,X,S,G⟩:=t;obtain rfl:k=1:=r;have o:Zo 1=64:=rfl;have q:Js 1=16:=rfl;simp only[TreeV.val];go_enter Tryz.func62,Tryz.ntmps62
  go_wp2_with (go_at_call 105;refine(qf7 _).mono ?_;rintro e w' ⟨rfl,rfl⟩)
  all_goals go_ret
  all_goals refine⟨ZY ?_,by repeat(first|exact Below.refl _ _|(refine Below.alloc ?_ (by simp) _))⟩
  all_goals try simp only[beq_iff_eq,beq_eq_false_iff_ne,bne_iff_ne,bne_eq_false_iff_eq]at*
  all_goals simp only[TreeV.validE,o,q]
  all_goals(repeat' split)<;>omega
theorem qf2 (t:TreeV)(r:t.k=2)(w:World):Calls Tryz.prog 62 #[t.val] w fun e w'=>e= .returned (.int .i64 t.validE)/\Below w.heap.size w w':=by
  obtain⟨k,d,f,p,l,i,U,J,I,D,V,O,X,S,G⟩:=t;obtain rfl:k=2:=r;have o:Zo 2=32:=rfl;have q:Js 2=8:=rfl;simp only[TreeV.val];go_enter Tryz.func62,Tryz.ntmps62
  go_wp2_with (go_at_call 105;refine(qf6 _).mono ?_;rintro e w' ⟨rfl,rfl⟩)
  all_goals go_ret
  all_goals refine⟨ZY ?_,by repeat(first|exact Below.refl _ _|(refine Below.alloc ?_ (by simp) _))⟩
  all_goals try simp only[beq_iff_eq,beq_eq_false_iff_ne,bne_iff_ne,bne_eq_false_iff_eq]at*
  all_goals simp only[TreeV.validE,o,q]
  all_goals(repeat' split)<;>omega
theorem YR (t:TreeV)(w:World):Calls Tryz.prog 60 #[t.val] w fun e w'=>e= .returned (.int .i64 t.validE)/\Below w.heap.size w w':=by
  by_cases o:t.k=1
  · exact qjB t o w
  by_cases q:t.k=2
  · exact qjA t q w
  have e:t.validE=1:=by simp[TreeV.validE,o,q]
  rw[e];exact qii t o q w
theorem yS (t:TreeV)(w:World):Calls Tryz.prog 62 #[t.val] w fun e w'=>e= .returned (.int .i64 t.validE)/\Below w.heap.size w w':=by
  by_cases o:t.k=1
  · exact qf3 t o w
  by_cases q:t.k=2
  · exact qf2 t q w
  have e:t.validE=1:=by simp[TreeV.validE,o,q]
  rw[e];exact qeI t o q w
end Go.Proofs.YtahenngmaoellaaGreat
namespace Go.Proofs.YtahenngmaoellaaGreat
open Go.ChangeShapes Go.WideShapes Go.ChangeAt Go.RowKit Go.Joins Go.Deep
open Go.Lib (hid)
section
variable {H:Type} {enc:TypeId×Value->H} {P:Program} {w:World} {base:Nat} {spare:Nat->Bool} {held:Bool}
end
theorem qkg {α:Type}{l:List α}(h:l.length=9): ∃a b c d e f g i j,l=[a,b,c,d,e,f,g,i,j]:=by
  match l,h with
  | [a,b,c,d,e,f,g,i,j],_=>exact⟨a,b,c,d,e,f,g,i,j,rfl⟩
theorem qgP:Tryz.prog.cellsOf 22=1:=by kernel_rfl
theorem Ji:Tryz.prog.cellsOf 3=1:=by kernel_rfl
theorem qia:Tryz.prog.cellsOf 23=1:=by kernel_rfl
theorem jL:Tryz.prog.cellsOf 24=1:=by kernel_rfl
theorem qjh:Tryz.prog.cellsOf 5=1:=by kernel_rfl
theorem qgL:Tryz.prog.cellsOf 26=9:=by kernel_rfl
end Go.Proofs.YtahenngmaoellaaGreat
namespace Go.Proofs.YtahenngmaoellaaGreat
open Go.ChangeShapes Go.WideShapes Go.ChangeAt Go.RowKit
open Go.Lib (hid)
variable{n d total:Nat}{w1:World}
def nth (l:List Nat)(k:Nat):Nat:=l.getD k 0
theorem zp (a:Nat)(l:List Nat)(k:Nat):nth (a::l) (k+1)=nth l k:=rfl
def qP (n d:Nat):Nat:=if n%d=0 then n/d else n/d+1
theorem Yy (G:1<=d):qP n d<=n:=by
  unfold qP;split
  · exact Nat.div_le_self _ _
  · rename_i h
    have D:2<=d:=by
      rcases Nat.lt_or_ge d 2 with o|o
      · have:d=1:=by omega
        subst this;simp[Nat.mod_one]at h
      · exact o
    have q:0<n:=by
      rcases Nat.eq_zero_or_pos n with o|o
      · subst o;simp at h
      · exact o
    have r:=Nat.div_lt_self q D;exact r
theorem ZQ (q:1<=n):1<=qP n d:=by
  unfold qP;split
  · rename_i h
    have:=Nat.div_add_mod n d
    rw[h]at this;rcases Nat.eq_zero_or_pos (n/d)with o|o
    · rw[o]at this;simp at this;omega
    · exact o
  · exact Nat.le_add_left _ _
def lvs (total l:Nat):Nat:=max 1 (qP total l)
def Qi (f p:Nat):Nat->Nat->Nat->List Nat
  | 0,_,_=>[]
  | fuel+1,row,n=>(if f=0\/row=p - 1 then 1 else qP n f)::(if(if f=0\/row=p - 1 then 1 else qP n f)=1 then [] else Qi f p fuel (row+1) (if f=0\/row=p - 1 then 1 else qP n f))
def QT (f p n:Nat):List Nat:=n::Qi f p p 1 n
def qK:Nat->List Nat->List (Nat×Nat)
  | _,[]=>[]
  | r,n::l=>(r,n)::qK (r+1) l
theorem yM: ∀(r:Nat) (l:List Nat),(qK r l).length=l.length
  | _,[]=>rfl
  | r,n::l=>by simp[qK,yM (r+1) l]
def TreeV.ln (t:TreeV):Nat:=t.l.toNat
def TreeV.fn (t:TreeV):Nat:=t.f.toNat
def TreeV.pn (t:TreeV):Nat:=t.p.toNat
def TreeV.err (t:TreeV)(total:Nat):Int:=if t.validE≠0 then t.validE else if t.k=2/\281474976710656<qP total t.ln then 2 else 0
theorem qn {t:TreeV}(h:t.validE=0):(t.k=1\/t.k=2)/\1<=t.d/\t.d<=Zo t.k/\1<=t.i/\t.i<=Zo t.k/\(t.f=0\/2<=t.f/\t.f<=255)/\2<=t.p/\t.p<=255/\t.l≠0/\
    (t.kl:Int)<=Zo t.k/\((t.sl:Int)=0\/(t.sl:Int)=Js t.k)/\((t.pl:Int)=0\/(t.pl:Int)=Js t.k):=by
  unfold TreeV.validE at h;split at h
  · cases h
  · split at h
    · cases h
    · split at h
      · cases h
      · split at h
        · cases h
        · split at h
          · cases h
          · refine⟨by omega,by omega,by omega,by omega,by omega,by omega,by omega,by omega,by omega,by omega,?_,?_⟩<;>omega
theorem Q9 {t:TreeV}(h:t.err total=0):t.validE=0:=by
  unfold TreeV.err at h;split at h
  · omega
  · omega
theorem qfA (n d:Nat)(hn:(n:Int)<=18446744073709551615)(J:1<=d)(Z:(d:Int)<=18446744073709551615)(w:World):
    Calls Tryz.prog 151 #[.int .u64 n,.int .u64 d] w fun e w'=>e= .returned (.int .u64 (qP n d))/\w=w':=by
  have U:=Yy (n:=n) J;have Y:(1:Int)<=d:=by omega
  have X:((d:Int)==0)=false:=by rw[beq_eq_false_iff_ne];omega
  have o:((n/d:Nat):Int)=(n:Int)/(d:Int):=Int.natCast_ediv n d;have r:((n%d:Nat):Int)=(n:Int)%(d:Int):=Int.natCast_emod n d;have V:=Nat.div_le_self n d;by_cases h:n%d=0
  · have I:((n:Int)%(d:Int) != 0)=false:=by
      rw[bne_eq_false_iff_eq,<-r,h];rfl
    have q:(qP n d:Int)=(n:Int)/(d:Int):=by simp[qP,h]
    have G:(n:Int)/(d:Int)<=18446744073709551615:=by rw[<-o];omega
    have S:0<=(n:Int)/(d:Int):=by rw[<-o];exact Int.natCast_nonneg _
    have D:=hid q;clear q o r;go_enter Tryz.func151,Tryz.ntmps151
    go_wp2
    go_ret
    exact⟨by rw[D.out];rfl,rfl⟩
  · have I:((n:Int)%(d:Int) != 0)=true:=by
      rw[bne_iff_ne,<-r];intro O;exact h (by exact_mod_cast O)
    have q:(qP n d:Int)=(n:Int)/(d:Int)+1:=by simp[qP,h]
    have G:(n:Int)/(d:Int)+1<=18446744073709551615:=by rw[<-o];(have e5:qP n d=n/d+1:=by simp[qP,h]);omega
    have S:0<=(n:Int)/(d:Int):=by rw[<-o];exact Int.natCast_nonneg _
    have D:=hid q;clear q o r;go_enter Tryz.func151,Tryz.ntmps151
    go_wp2
    go_ret
    exact⟨by rw[D.out];rfl,rfl⟩
theorem JF (n d:Nat)(hn:(n:Int)<=18446744073709551615)(J:1<=d)(Z:(d:Int)<=18446744073709551615)(w:World):
    Calls Tryz.prog 90 #[.int .u64 n,.int .u64 d] w fun e w'=>e= .returned (.int .u64 (qP n d))/\w=w':=by
  have U:=Yy (n:=n) J;have Y:(1:Int)<=d:=by omega
  have X:((d:Int)==0)=false:=by rw[beq_eq_false_iff_ne];omega
  have o:((n/d:Nat):Int)=(n:Int)/(d:Int):=Int.natCast_ediv n d;have r:((n%d:Nat):Int)=(n:Int)%(d:Int):=Int.natCast_emod n d;have V:=Nat.div_le_self n d;by_cases h:n%d=0
  · have I:((n:Int)%(d:Int)==0)=true:=by
      rw[beq_iff_eq,<-r,h];rfl
    have q:(qP n d:Int)=(n:Int)/(d:Int):=by simp[qP,h]
    have G:(n:Int)/(d:Int)<=18446744073709551615:=by rw[<-o];omega
    have S:0<=(n:Int)/(d:Int):=by rw[<-o];exact Int.natCast_nonneg _
    have D:=hid q;clear q o r;go_enter Tryz.func90,Tryz.ntmps90
    go_wp2
    go_ret
    exact⟨by rw[D.out];rfl,rfl⟩
  · have I:((n:Int)%(d:Int)==0)=false:=by
      rw[beq_eq_false_iff_ne,<-r];intro O;exact h (by exact_mod_cast O)
    have q:(qP n d:Int)=(n:Int)/(d:Int)+1:=by simp[qP,h]
    have G:(n:Int)/(d:Int)+1<=18446744073709551615:=by rw[<-o];(have e5:qP n d=n/d+1:=by simp[qP,h]);omega
    have S:0<=(n:Int)/(d:Int):=by rw[<-o];exact Int.natCast_nonneg _
    have D:=hid q;clear q o r;go_enter Tryz.func90,Tryz.ntmps90
    go_wp2
    go_ret
    exact⟨by rw[D.out];rfl,rfl⟩
theorem Q5 {W:World}(q:Below W.heap.size W w1):(∀b o,b<W.heap.size->w1.cell? ⟨b,o,none⟩=W.cell? ⟨b,o,none⟩)/\(∀b o,b<W.heap.size->w1.frozen? ⟨b,o,none⟩=W.frozen? ⟨b,o,none⟩):=
  ⟨fun b o h=>q.cell (p:=⟨b,o,none⟩) h,fun b o h=>q.frozen (p:=⟨b,o,none⟩) h⟩
theorem qbM (t:TreeV)(Z:0<=t.l/\t.l<=4294967295)(total:Nat)(V:(total:Int)<=18446744073709551615)(w:World):
    Calls Tryz.prog 123 #[t.val,.int .u64 total] w fun e w'=>e= .returned (.int .i64 (t.err total))/\Below w.heap.size w w':=by
  by_cases q:t.validE=0
  · have Y:=qn q
    have O:=hid q;obtain⟨-, -, -, -, -, -, -, -,G, -, -, -⟩:=Y;have I:1<=t.ln:=by unfold TreeV.ln;omega
    have J:(t.ln:Int)<=18446744073709551615:=by unfold TreeV.ln;omega
    have U:=hid (show t.l=(t.ln:Int) by unfold TreeV.ln;omega);by_cases r:t.k=2
    · have X:(t.k==2)=true:=by simpa using r
      have D:Hid (t.err total=if 281474976710656<qP total t.ln then 2 else 0):=by show _=_;simp[TreeV.err,q,r]
      clear r G q;unfold TreeV.val;go_enter Tryz.func123,Tryz.ntmps123
      go_wp2_with fail
      refine(YR t _).mono ?_;rintro e w1 ⟨rfl,o⟩;obtain⟨S, -⟩:=Q5 o;rw[O.out];go_wp2_with (go_at_call 151;rw[U.out];refine(qfA total t.ln V I J _).mono ?_;rintro e w2 ⟨rfl,rfl⟩)
      all_goals go_ret
      all_goals refine⟨ZY (by rw[D.out];first|rw[if_pos (by omega)]|rw[if_neg (by omega)]),?_⟩
      all_goals exact(Below.alloc Br Nl _).trans (o.mono (by simp))
    · have X:(t.k==2)=false:=by simpa using r
      have D:Hid (t.err total=0):=by show _=_;simp[TreeV.err,q,r]
      clear r G q;unfold TreeV.val;go_enter Tryz.func123,Tryz.ntmps123
      go_wp2_with fail
      refine(YR t _).mono ?_;rintro e w1 ⟨rfl,o⟩;obtain⟨S, -⟩:=Q5 o;rw[O.out];go_wp2
      go_ret
      exact⟨ZY (by rw[D.out]),(Below.alloc Br Nl _).trans (o.mono (by simp))⟩
  · have e1:(t.validE != 0)=true:=by rw[bne_iff_ne];exact q
    have D:Hid (t.err total=t.validE):=by show _=_;simp[TreeV.err,q]
    clear q;unfold TreeV.val;go_enter Tryz.func123,Tryz.ntmps123
    go_wp2_with fail
    refine(YR t _).mono ?_;rintro e w1 ⟨rfl,o⟩;go_wp2
    go_ret
    exact⟨ZY (by rw[D.out]),(Below.alloc Br Nl _).trans (o.mono (by simp))⟩
theorem qs {w:World}(o:Obj)(q:Below (w.alloc o).heap.size (w.alloc o) w1):Below w.heap.size w w1:=
  (Below.alloc Br Nl o).trans (q.mono (by simp))
theorem qdN {k:IntKind}{a b:Int}{v:Value}(h:a=b):Ending.returned (.tuple #[.int k a,v])= .returned (.tuple #[.int k b,v]):=by rw[h]
theorem Qw {t:TreeV}(q:0<=t.l/\t.l<=4294967295)(h:t.err total=0):1<=t.ln/\(t.ln:Int)<=4294967295/\t.l=(t.ln:Int)/\t.validE=0:=by
  have o:=Q9 h;have r:=qn o;unfold TreeV.ln;omega
theorem qgt (total l:Nat)(o:1<=l)(q:(total:Int)<=18446744073709551615):(lvs total l:Int)<=18446744073709551615:=by
  have:=Yy (n:=total) o
  unfold lvs;omega
theorem Jw (t:TreeV)(hl:0<=t.l/\t.l<=4294967295)(total:Nat)(X:(total:Int)<=18446744073709551615)(h:t.err total≠0)(w:World):
    Calls Tryz.prog 53 #[t.val,.int .u64 total] w fun e w'=>e= .returned (.tuple #[.int .u64 0,.int .i64 (t.err total)])/\Below w.heap.size w w':=by
  by_cases o:t.validE=0
  · have Y:=qn o
    have U:=hid o;obtain⟨-, -, -, -, -, -, -, -,S, -, -, -⟩:=Y;have I:1<=t.ln:=by unfold TreeV.ln;omega
    have O:(t.ln:Int)<=18446744073709551615:=by unfold TreeV.ln;omega
    have V:=hid (show t.l=(t.ln:Int) by unfold TreeV.ln;omega);have G:t.k=2/\281474976710656<qP total t.ln:=by
      unfold TreeV.err at h;rw[if_neg (by omega)]at h;by_cases D:t.k=2/\281474976710656<qP total t.ln
      · exact D
      · rw[if_neg D]at h;exact absurd rfl h
    have r:Hid (t.err total=2):=by show _=_;simp[TreeV.err,o,G]
    obtain⟨J,Z⟩:=G;have ek:(t.k==2)=true:=by simpa using J
    have en:((qP total t.ln:Int)==0)=false:=by rw[beq_eq_false_iff_ne];omega
    clear J S o h;unfold TreeV.val;go_enter Tryz.func53,Tryz.ntmps53
    go_wp2_with fail
    refine(yS t _).mono ?_;rintro e w1 ⟨rfl,q⟩;obtain⟨D, -⟩:=Q5 q;rw[U.out];go_wp2_with (go_at_call 90;rw[V.out];refine(JF total t.ln X I O _).mono ?_;rintro e w2 ⟨rfl,rfl⟩)
    go_ret2
    exact⟨by rw[r.out];rfl,qs _ q⟩
  · have e1:(t.validE != 0)=true:=by rw[bne_iff_ne];exact o
    have r:Hid (t.err total=t.validE):=by show _=_;simp[TreeV.err,o]
    clear o h;unfold TreeV.val;go_enter Tryz.func53,Tryz.ntmps53
    go_wp2_with fail
    refine(yS t _).mono ?_;rintro e w1 ⟨rfl,q⟩;go_wp2
    go_ret2
    exact⟨by rw[r.out];rfl,qs _ q⟩
theorem Z0 (t:TreeV)(hl:0<=t.l/\t.l<=4294967295)(total:Nat)(V:(total:Int)<=18446744073709551615)(h:t.err total=0)(w:World):
    Calls Tryz.prog 53 #[t.val,.int .u64 total] w fun e w'=>e= .returned (.tuple #[.int .u64 (lvs total t.ln),.int .i64 0])/\Below w.heap.size w w':=by
  obtain⟨r,ab,G,O⟩:=Qw hl h;have U:=hid G;have S:=hid O;have D:(t.ln:Int)<=18446744073709551615:=by omega
  have aa:=Yy (n:=total) r;by_cases X:qP total t.ln=0
  · have en:((qP total t.ln:Int)==0)=true:=by rw[beq_iff_eq];omega
    have I:Hid ((lvs total t.ln:Int)=1):=by show _=_;unfold lvs;omega
    clear h G O X;by_cases q:t.k=2
    · have Z:(t.k==2)=true:=by simpa using q
      clear q;unfold TreeV.val;go_enter Tryz.func53,Tryz.ntmps53
      go_wp2_with fail
      refine(yS t _).mono ?_;rintro e w1 ⟨rfl,o⟩;obtain⟨J, -⟩:=Q5 o;rw[S.out];go_wp2_with (go_at_call 90;rw[U.out];refine(JF total t.ln V r D _).mono ?_;rintro e Y ⟨rfl,rfl⟩)
      go_ret2
      exact⟨qdN (by rw[I.out]),qs _ o⟩
    · have Z:(t.k==2)=false:=by simpa using q
      clear q;unfold TreeV.val;go_enter Tryz.func53,Tryz.ntmps53
      go_wp2_with fail
      refine(yS t _).mono ?_;rintro e w1 ⟨rfl,o⟩;obtain⟨J, -⟩:=Q5 o;rw[S.out];go_wp2_with (go_at_call 90;rw[U.out];refine(JF total t.ln V r D _).mono ?_;rintro e Y ⟨rfl,rfl⟩)
      go_ret2
      exact⟨qdN (by rw[I.out]),qs _ o⟩
  · have en:((qP total t.ln:Int)==0)=false:=by rw[beq_eq_false_iff_ne];omega
    have I:Hid ((lvs total t.ln:Int)=qP total t.ln):=by show _=_;unfold lvs;omega
    by_cases q:t.k=2
    · have Z:(t.k==2)=true:=by simpa using q
      have ac:qP total t.ln<=281474976710656:=by
        unfold TreeV.err at h;rw[if_neg (by omega)]at h;by_cases J:281474976710656<qP total t.ln
        · rw[if_pos ⟨q,J⟩]at h;cases h
        · omega
      clear q h G O X;unfold TreeV.val;go_enter Tryz.func53,Tryz.ntmps53
      go_wp2_with fail
      refine(yS t _).mono ?_;rintro e w1 ⟨rfl,o⟩;obtain⟨J, -⟩:=Q5 o;rw[S.out];go_wp2_with (go_at_call 90;rw[U.out];refine(JF total t.ln V r D _).mono ?_;rintro e Y ⟨rfl,rfl⟩)
      go_ret2
      exact⟨qdN (by rw[I.out]),qs _ o⟩
    · have Z:(t.k==2)=false:=by simpa using q
      clear q h G O X;unfold TreeV.val;go_enter Tryz.func53,Tryz.ntmps53
      go_wp2_with fail
      refine(yS t _).mono ?_;rintro e w1 ⟨rfl,o⟩;obtain⟨J, -⟩:=Q5 o;rw[S.out];go_wp2_with (go_at_call 90;rw[U.out];refine(JF total t.ln V r D _).mono ?_;rintro e Y ⟨rfl,rfl⟩)
      go_ret2
      exact⟨qdN (by rw[I.out]),qs _ o⟩
end Go.Proofs.YtahenngmaoellaaGreat
namespace Go.Proofs.YtahenngmaoellaaGreat
open Go.ChangeShapes Go.WideShapes Go.ChangeAt Go.RowKit Go.Joins Go.Maps
open Go.Lib (hid)
variable{f p r m fuel:Nat}
def qbt (n:Nat):Value:= .int .u64 n
theorem qch:(Tryz.prog.info? 44).map (fun i=>(i.zero,i.size,i.bytes))=some (some (.int .u64 0),1,8):=by kernel_rfl
theorem zl (o:1<=fuel)(h:f=0\/r=p - 1):Qi f p fuel r m=[1]:=by
  obtain⟨k,rfl⟩: ∃k,fuel=k+1:=⟨fuel - 1,by omega⟩;simp[Qi,h]
theorem JW (q:1<=fuel)(h: ¬(f=0\/r=p - 1))(o:qP m f=1):Qi f p fuel r m=[1]:=by
  obtain⟨k,rfl⟩: ∃k,fuel=k+1:=⟨fuel - 1,by omega⟩;simp only[Qi,h,if_false,o];simp
theorem Ju (h: ¬(f=0\/r=p - 1))(o:qP m f≠1):Qi f p (fuel+1) r m=qP m f::Qi f p fuel (r+1) (qP m f):=by
  simp only[Qi,h,if_false,o]
def qkA (t:TreeV)(total:Nat)(w0:World)(n v i:Value)(wr:World):Prop:=
  ∃(r m fuel:Nat) (pre:List Nat),n= .int .u64 m/\i= .int .i64 r/\1<=r/\r+1<=t.pn/\t.pn<=fuel+r/\(m:Int)<=18446744073709551615/\pre.length=r/\
    QT t.fn t.pn (lvs total t.ln)=pre++Qi t.fn t.pn fuel r m/\wr.ownsRow w0.heap.size 44 1 v pre.length (pre.map qbt)/\Below w0.heap.size w0 wr
theorem qeM (t:TreeV)(q:0<=t.l/\t.l<=4294967295)(total:Nat)(r:(total:Int)<=18446744073709551615)(h:t.err total≠0)(w:World):
    Calls Tryz.prog 91 #[t.val,.int .u64 total] w fun e w'=>e= .returned (.tuple #[.slice none 0 0,.int .i64 (t.err total)])/\Below w.heap.size w w':=by
  have D:(t.err total != 0)=true:=by rw[bne_iff_ne];exact h
  unfold TreeV.val;go_enter Tryz.func91,Tryz.ntmps91
  have H:=hid h;clear h;go_wp2_with fail
  refine(Jw t q total r H.out _).mono ?_;rintro e w1 ⟨rfl,o⟩;go_wp2
  go_ret2
  exact⟨rfl,qs _ o⟩
theorem JJ (t:TreeV)(hl:0<=t.l/\t.l<=4294967295)(total:Nat)(ht:(total:Int)<=18446744073709551615)(h:t.err total=0)(w:World):
    Calls Tryz.prog 91 #[t.val,.int .u64 total] w fun e w'=> ∃v,e= .returned (.tuple #[v,.int .i64 0])/\
      w'.ownsRow w.heap.size 44 1 v (QT t.fn t.pn (lvs total t.ln)).length ((QT t.fn t.pn (lvs total t.ln)).map qbt)/\Below w.heap.size w w':=by
  obtain⟨i0,hi,ae,ad,aa⟩:=info_parts qch;obtain⟨ap,az, -,h0⟩:=Qw hl h;have hv:=qn h0;obtain⟨-, -, -, -, -,hf,aF,aE, -, -, -, -⟩:=hv;have ao:=qgt total t.ln ap ht;have al:t.p=(t.pn:Int):=by unfold TreeV.pn;omega
  have ai:t.f=(t.fn:Int):=by unfold TreeV.fn;omega
  have H:=hid h;have HP:=hid al;have HF:=hid ai;have aD:2<=t.pn:=by omega
  have av:t.pn<=255:=by omega
  have ar:t.fn<=255:=by omega
  clear h h0 al ai;unfold TreeV.val;go_enter Tryz.func91,Tryz.ntmps91
  go_wp2_with fail
  refine(Z0 t hl total ht H.out _).mono ?_;rintro e w1 ⟨rfl,S⟩;go_wp2
  have aj:w1.cell? ⟨w.heap.size,2,none⟩=some (.int .i64 t.fn):=by rw[<-HF.out];exact(S.cell (p:=⟨w.heap.size,2,none⟩) (by simp)).trans (by simp[go_sem])
  have ak:w1.cell? ⟨w.heap.size,3,none⟩=some (.int .i64 t.pn):=by rw[<-HP.out];exact(S.cell (p:=⟨w.heap.size,3,none⟩) (by simp)).trans (by simp[go_sem])
  have G:w.heap.size<w1.heap.size:=by have:=S.size;simp at this;omega
  go_loopw [6,8,9] (fun n v i wr=>qkA t total w1 n v i wr) (fun _ _ i _=>t.pn - (intOf i).toNat)
  case atStart=>
    refine⟨1,lvs total t.ln,t.pn,[lvs total t.ln],rfl,rfl,Nat.le_refl _,by omega,by omega,ao,rfl,rfl,?_,?_⟩
    · exact World.ownsRow_lit w1 #[.int .u64 (lvs total t.ln)] 1 Nl (by unfold maxLen;omega) rfl
    · exact Below.alloc Br Nl _
  case round=>
    obtain⟨r,m,fuel,X,rfl,rfl,au,aC,ax,hm,am,ah,D,O⟩:=hrel;have aB:wr.cell? ⟨w.heap.size,2,none⟩=some (.int .i64 t.fn):=(O.cell (p:=⟨w.heap.size,2,none⟩) G).trans aj;have ay:wr.cell? ⟨w.heap.size,3,none⟩=some (.int .i64 t.pn):=(O.cell (p:=⟨w.heap.size,3,none⟩) G).trans ak;have ac:w1.heap.size<=wr.heap.size:=O.size;have ab:=hid ah;have an:=hid am;have aq:X.length<=254:=by omega
    have Z:1<=fuel:=by omega
    clear ah aj ak am;by_cases U:t.fn=0
    · have e1:((t.fn:Int)==0)=true:=by rw[beq_iff_eq];omega
      have HS:=hid (zl (m:=m) Z (.inl U:t.fn=0\/r=t.pn - 1));clear U;go_wp2_with (at_builtin;refine wpList_append_own _ rfl _ _ 109 rfl w1.heap.size 44 i0 (.int .u64 0) 1 8 Tryz.underlying109 hi ae ad aa rfl (by decide) _ _ _ rfl (D.alloc _) ⟨wr.heap.size,0,none⟩ 1 1 [.int .u64 1] rfl rfl (cell_one_new _ _ _) (by simp[Value.oneCell']) (by unfold maxLen;omega) (by omega) (by simp;omega) ?_;intro v' V q o _)
      go_ret2
      have I:Below w1.heap.size w1 V:=(O.alloc ac _).grown o (by simp;omega) (fun k e=>(D.lt k e).1);refine⟨v',rfl,?_,((qs _ S).trans (I.mono (Nat.le_of_lt G)))⟩;have J:QT t.fn t.pn (lvs total t.ln)=X++[1]:=by rw[ab.out,HS.out]
      rw[J];have:=ownsRow_le q (Nat.le_of_lt G)
      simpa [qbt] using this
    have e1:((t.fn:Int)==0)=false:=by rw[beq_eq_false_iff_ne];omega
    by_cases Y:r=t.pn - 1
    · have e2:((r:Int)==(t.pn:Int) - 1)=true:=by rw[beq_iff_eq];omega
      have HS:=hid (zl (m:=m) Z (.inr Y:t.fn=0\/r=t.pn - 1));clear Y U;go_wp2_with (at_builtin;refine wpList_append_own _ rfl _ _ 109 rfl w1.heap.size 44 i0 (.int .u64 0) 1 8 Tryz.underlying109 hi ae ad aa rfl (by decide) _ _ _ rfl (D.alloc _) ⟨wr.heap.size,0,none⟩ 1 1 [.int .u64 1] rfl rfl (cell_one_new _ _ _) (by simp[Value.oneCell']) (by unfold maxLen;omega) (by omega) (by simp;omega) ?_;intro v' V q o _)
      go_ret2
      have I:Below w1.heap.size w1 V:=(O.alloc ac _).grown o (by simp;omega) (fun k e=>(D.lt k e).1);refine⟨v',rfl,?_,((qs _ S).trans (I.mono (Nat.le_of_lt G)))⟩;have J:QT t.fn t.pn (lvs total t.ln)=X++[1]:=by rw[ab.out,HS.out]
      rw[J];have:=ownsRow_le q (Nat.le_of_lt G)
      simpa [qbt] using this
    have e2:((r:Int)==(t.pn:Int) - 1)=false:=by rw[beq_eq_false_iff_ne];omega
    have af: ¬(t.fn=0\/r=t.pn - 1):=fun h=>h.elim U Y
    have aA:=Yy (n:=m) (show 1<=t.fn by omega);by_cases h1:qP m t.fn=1
    · have e3:((qP m t.fn:Int)==1)=true:=by rw[beq_iff_eq];omega
      have HS:=hid (JW Z af h1);have H1:=hid h1;have ag:1<=t.fn:=by omega
      clear Y U af h1;go_wp2_with (first|(at_builtin;refine wpList_append_own _ rfl _ _ 109 rfl w1.heap.size 44 i0 (.int .u64 0) 1 8 Tryz.underlying109 hi ae ad aa rfl (by decide) _ _ _ rfl (D.alloc _) ⟨wr.heap.size,0,none⟩ 1 1 [.int .u64 (qP m t.fn)] rfl rfl (cell_one_new _ _ _) (by simp[Value.oneCell']) (by unfold maxLen;omega) (by omega) (by simp;omega) ?_;intro v' V q o _)|(go_at_call 90;refine(JF m t.fn hm ag (by omega) _).mono ?_;rintro e V ⟨rfl,rfl⟩))
      go_ret2
      have I:Below w1.heap.size w1 V:=(O.alloc ac _).grown o (by simp;omega) (fun k e=>(D.lt k e).1);refine⟨v',rfl,?_,((qs _ S).trans (I.mono (Nat.le_of_lt G)))⟩;have J:QT t.fn t.pn (lvs total t.ln)=X++[qP m t.fn]:=by rw[ab.out,HS.out,H1.out]
      rw[J];have:=ownsRow_le q (Nat.le_of_lt G)
      simpa [qbt] using this
    · have e3:((qP m t.fn:Int)==1)=false:=by rw[beq_eq_false_iff_ne];omega
      obtain⟨fu,rfl⟩: ∃fu,fuel=fu+1:=⟨fuel - 1,by omega⟩;have HS:=hid (Ju (fuel:=fu) af h1);have ag:1<=t.fn:=by omega
      have aw:r+2<=t.pn:=by omega
      clear Y U af h1;go_wp2_with (first|(at_builtin;refine wpList_append_own _ rfl _ _ 109 rfl w1.heap.size 44 i0 (.int .u64 0) 1 8 Tryz.underlying109 hi ae ad aa rfl (by decide) _ _ _ rfl (D.alloc _) ⟨wr.heap.size,0,none⟩ 1 1 [.int .u64 (qP m t.fn)] rfl rfl (cell_one_new _ _ _) (by simp[Value.oneCell']) (by unfold maxLen;omega) (by omega) (by simp;omega) ?_;intro v' V q o _)|(go_at_call 90;refine(JF m t.fn hm ag (by omega) _).mono ?_;rintro e V ⟨rfl,rfl⟩))
      go_roundw
      case rel=>
        have I:Below w1.heap.size w1 V:=(O.alloc ac _).grown o (by simp;omega) (fun k e=>(D.lt k e).1);refine⟨r+1,qP m t.fn,fu,X++[qP m t.fn],rfl,by simp,by omega,by omega,by omega,by omega,by simp[an.out],?_,?_,I⟩
        · rw[ab.out,HS.out];simp
        · simpa [qbt] using q
      case measure=>simp[intOf];omega
