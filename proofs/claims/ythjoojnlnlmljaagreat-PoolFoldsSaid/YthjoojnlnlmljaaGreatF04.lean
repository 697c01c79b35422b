/- The walks of the reference's Valid; Valid on both sides, of every tree. No condition. -/
import Derived.Test.YthjoojnlnlmljaaGreatP00
import Derived.Test.YthjoojnlnlmljaaGreatF03
import Derived.OpenShut
import Derived.Deep.Fields
import Derived.Lib.SmallJoins
import Derived.Maps.AppendAt
set_option linter.all false
set_option maxRecDepth 100000
set_option maxHeartbeats 8000000
namespace Go.Proofs.YthjoojnlnlmljaaGreat
open Go.ChangeShapes Go.WideShapes Go.ChangeAt Go.RowKit
open Go.Lib (hid)
theorem qet (w:World):Calls Tryz.prog 96 #[.int .i64 1] w fun e w'=>e= .returned (.tuple #[.int .i64 64,.int .i64 16])∧w=w':=by
  go_enter Tryz.func96,Tryz.ntmps96
  go_wp2
  go_ret2
  exact⟨rfl,rfl⟩
theorem qes (w:World):Calls Tryz.prog 96 #[.int .i64 2] w fun e w'=>e= .returned (.tuple #[.int .i64 32,.int .i64 8])∧w=w':=by
  go_enter Tryz.func96,Tryz.ntmps96
  go_wp2
  go_ret2
  exact⟨rfl,rfl⟩
theorem qdi (k:Int)(q:k≠1)(o:k≠2)(w:World):Calls Tryz.prog 96 #[.int .i64 k] w fun e w'=>e= .returned (.tuple #[.int .i64 0,.int .i64 0])∧w=w':=by
  have G:(k==1)=false:=by simpa using q
  have D:(k==2)=false:=by simpa using o
  go_enter Tryz.func96,Tryz.ntmps96
  go_wp2
  go_ret2
  exact⟨rfl,rfl⟩
theorem qdf (t:TreeV)(q:t.k≠1)(o:t.k≠2)(w:World):Calls Tryz.prog 58 #[t.val] w fun e w'=>e= .returned (.int .i64 1)∧Below w.heap.size w w':=by
  unfold TreeV.val;go_enter Tryz.func58,Tryz.ntmps58
  go_wp2_with (go_at_call 96;refine(qdi t.k q o _).mono ?_;rintro e w' ⟨rfl,rfl⟩)
  go_ret
  exact⟨rfl,by repeat(first|exact Below.refl _ _|(refine Below.alloc ?_ (by simp) _))⟩
theorem qep (t:TreeV)(D:t.k=1)(w:World):Calls Tryz.prog 58 #[t.val] w fun e w'=>e= .returned (.int .i64 t.validE)∧Below w.heap.size w w':=by
  obtain⟨k,d,f,p,l,i,G,S,I,O,V,Y,J,X,U⟩:=t;obtain rfl:k=1:=D;have o:Yu 1=64:=rfl;have q:jq 1=16:=rfl;simp only[TreeV.val];go_enter Tryz.func58,Tryz.ntmps58
  go_wp2_with (go_at_call 96;refine(qet _).mono ?_;rintro e w' ⟨rfl,rfl⟩)
  all_goals go_ret
  all_goals refine⟨zW ?_,by repeat(first|exact Below.refl _ _|(refine Below.alloc ?_ (by simp) _))⟩
  all_goals try simp only[beq_iff_eq,beq_eq_false_iff_ne,bne_iff_ne,bne_eq_false_iff_eq]at*
  all_goals simp only[TreeV.validE,o,q]
  all_goals(repeat' split)<;>omega
theorem qeo (t:TreeV)(D:t.k=2)(w:World):Calls Tryz.prog 58 #[t.val] w fun e w'=>e= .returned (.int .i64 t.validE)∧Below w.heap.size w w':=by
  obtain⟨k,d,f,p,l,i,G,S,I,O,V,Y,J,X,U⟩:=t;obtain rfl:k=2:=D;have o:Yu 2=32:=rfl;have q:jq 2=8:=rfl;simp only[TreeV.val];go_enter Tryz.func58,Tryz.ntmps58
  go_wp2_with (go_at_call 96;refine(qes _).mono ?_;rintro e w' ⟨rfl,rfl⟩)
  all_goals go_ret
  all_goals refine⟨zW ?_,by repeat(first|exact Below.refl _ _|(refine Below.alloc ?_ (by simp) _))⟩
  all_goals try simp only[beq_iff_eq,beq_eq_false_iff_ne,bne_iff_ne,bne_eq_false_iff_eq]at*
  all_goals simp only[TreeV.validE,o,q]
  all_goals(repeat' split)<;>omega
theorem Jr (t:TreeV)(w:World):Calls Tryz.prog 56 #[t.val] w fun e w'=>e= .returned (.int .i64 t.validE)∧Below w.heap.size w w':=by
  by_cases q:t.k=1
  · exact qhC t q w
  by_cases o:t.k=2
  · exact qhB t o w
  have e:t.validE=1:=by simp[TreeV.validE,q,o]
  rw[e];exact qgr t q o w
theorem yl (t:TreeV)(w:World):Calls Tryz.prog 58 #[t.val] w fun e w'=>e= .returned (.int .i64 t.validE)∧Below w.heap.size w w':=by
  by_cases q:t.k=1
  · exact qep t q w
  by_cases o:t.k=2
  · exact qeo t o w
  have e:t.validE=1:=by simp[TreeV.validE,q,o]
  rw[e];exact qdf t q o w
end Go.Proofs.YthjoojnlnlmljaaGreat
namespace Go.Proofs.YthjoojnlnlmljaaGreat
open Go.ChangeShapes Go.WideShapes Go.ChangeAt Go.RowKit Go.Joins Go.Deep
open Go.Lib (hid)
section
variable {H:Type} {enc:TypeId×Value→H} {P:Program} {w:World} {base:Nat} {spare:Nat→Bool} {held:Bool}
end
theorem qh6 {α:Type}{l:List α}(h:l.length=9): ∃a b c d e f g i j,l=[a,b,c,d,e,f,g,i,j]:=by
  match l,h with
  | [a,b,c,d,e,f,g,i,j],_=>exact⟨a,b,c,d,e,f,g,i,j,rfl⟩
theorem qe5:Tryz.prog.cellsOf 22=1:=by kernel_rfl
theorem zO:Tryz.prog.cellsOf 3=1:=by kernel_rfl
theorem qgl:Tryz.prog.cellsOf 23=1:=by kernel_rfl
theorem zt:Tryz.prog.cellsOf 24=1:=by kernel_rfl
theorem qhi:Tryz.prog.cellsOf 5=1:=by kernel_rfl
theorem qe3:Tryz.prog.cellsOf 26=9:=by kernel_rfl
theorem qgR {H:Type}{enc:TypeId×Value→H}{w:World}{base D:Nat}{r:Reach}{spare:Nat→Bool}{held:Bool}{v:Value}{d:DataW H}{G:List MemPlace}
    (o:Value.okWide Tryz.prog w r D 44 v) (h:DataW.Trod enc Tryz.prog w base spare held 44 v d G):
    ∃n,v= .int .u64 n∧0≤n∧n≤18446744073709551615:=by
  obtain⟨x,rfl,rfl,rfl,q⟩:=open_int Tryz.underlying44 o h;exact⟨x,rfl,bounds_u64 q⟩
end Go.Proofs.YthjoojnlnlmljaaGreat
namespace Go.Proofs.YthjoojnlnlmljaaGreat
open Go.ChangeShapes Go.WideShapes Go.ChangeAt Go.RowKit
open Go.Lib (hid)
def nth (l:List Nat)(k:Nat):Nat:=l.getD k 0
theorem YD (a:Nat)(l:List Nat)(k:Nat):nth (a::l) (k+1)=nth l k:=rfl
def qU (n d:Nat):Nat:=if n%d=0 then n/d else n/d+1
theorem YU {n d:Nat}(I:1≤d):qU n d≤n:=by
  unfold qU;split
  · exact Nat.div_le_self _ _
  · rename_i h
    have q:2≤d:=by
      rcases Nat.lt_or_ge d 2 with o|o
      · have:d=1:=by omega
        subst this;simp[Nat.mod_one]at h
      · exact o
    have G:0<n:=by
      rcases Nat.eq_zero_or_pos n with o|o
      · subst o;simp at h
      · exact o
    have D:=Nat.div_lt_self G q;exact D
theorem qba {n d:Nat}(q:1≤n):1≤qU n d:=by
  unfold qU;split
  · rename_i h
    have:=Nat.div_add_mod n d
    rw[h]at this;rcases Nat.eq_zero_or_pos (n/d)with o|o
    · rw[o]at this;simp at this;omega
    · exact o
  · exact Nat.le_add_left _ _
def lvs (total l:Nat):Nat:=max 1 (qU total l)
def qP (f p:Nat):Nat→Nat→Nat→List Nat
  | 0,_,_=>[]
  | fuel+1,row,n=>(if f=0∨row=p - 1 then 1 else qU n f)::(if(if f=0∨row=p - 1 then 1 else qU n f)=1 then [] else qP f p fuel (row+1) (if f=0∨row=p - 1 then 1 else qU n f))
def Qe (f p n:Nat):List Nat:=n::qP f p p 1 n
def qE:Nat→List Nat→List (Nat×Nat)
  | _,[]=>[]
  | r,n::l=>(r,n)::qE (r+1) l
theorem yi: ∀(r:Nat) (l:List Nat),(qE r l).length=l.length
  | _,[]=>rfl
  | r,n::l=>by simp[qE,yi (r+1) l]
theorem Zj (f p:Nat): ∀(fuel row n:Nat),(qP f p fuel row n).length≤fuel
  | 0,_,_=>by simp[qP]
  | fuel+1,row,n=>by
    simp only[qP,List.length_cons];generalize (if f=0∨row=p - 1 then 1 else qU n f)=m;have:=Zj f p fuel (row+1) m
    by_cases h:m=1
    · simp[h]
    · simp only[h,if_false];omega
def TreeV.ln (t:TreeV):Nat:=t.l.toNat
def TreeV.fn (t:TreeV):Nat:=t.f.toNat
def TreeV.pn (t:TreeV):Nat:=t.p.toNat
def TreeV.err (t:TreeV)(total:Nat):Int:=if t.validE≠0 then t.validE else if t.k=2∧281474976710656<qU total t.ln then 2 else 0
theorem qq {t:TreeV}(h:t.validE=0):(t.k=1∨t.k=2)∧1≤t.d∧t.d≤Yu t.k∧1≤t.i∧t.i≤Yu t.k∧(t.f=0∨2≤t.f∧t.f≤255)∧2≤t.p∧t.p≤255∧t.l≠0∧
    (t.kl:Int)≤Yu t.k∧((t.sl:Int)=0∨(t.sl:Int)=jq t.k)∧((t.pl:Int)=0∨(t.pl:Int)=jq t.k):=by
  unfold TreeV.validE at h;split at h
  · cases h
  · split at h
    · cases h
    · split at h
      · cases h
      · split at h
        · cases h
        · split at h
          · cases h
          · refine⟨by omega,by omega,by omega,by omega,by omega,by omega,by omega,by omega,by omega,by omega,?_,?_⟩<;>omega
theorem qG {t:TreeV}{total:Nat}(h:t.err total=0):t.validE=0:=by
  unfold TreeV.err at h;split at h
  · omega
  · omega
theorem qdP (n d:Nat)(hn:(n:Int)≤18446744073709551615)(S:1≤d)(aa:(d:Int)≤18446744073709551615)(w:World):
    Calls Tryz.prog 145 #[.int .u64 n,.int .u64 d] w fun e w'=>e= .returned (.int .u64 (qU n d))∧w=w':=by
  have X:=YU (n:=n) S;have Z:(1:Int)≤d:=by omega
  have V:((d:Int)==0)=false:=by rw[beq_eq_false_iff_ne];omega
  have o:((n/d:Nat):Int)=(n:Int)/(d:Int):=Int.natCast_ediv n d;have D:((n%d:Nat):Int)=(n:Int)%(d:Int):=Int.natCast_emod n d;have Y:=Nat.div_le_self n d;by_cases h:n%d=0
  · have U:((n:Int)%(d:Int) != 0)=false:=by
      rw[bne_eq_false_iff_eq,←D,h];rfl
    have q:(qU n d:Int)=(n:Int)/(d:Int):=by simp[qU,h]
    have O:(n:Int)/(d:Int)≤18446744073709551615:=by rw[←o];omega
    have J:0≤(n:Int)/(d:Int):=by rw[←o];exact Int.natCast_nonneg _
    have G:=hid q;clear q o D;go_enter Tryz.func145,Tryz.ntmps145
    go_wp2
    go_ret
    exact⟨by rw[G.out];rfl,rfl⟩
  · have U:((n:Int)%(d:Int) != 0)=true:=by
      rw[bne_iff_ne,←D];intro I;exact h (by exact_mod_cast I)
    have q:(qU n d:Int)=(n:Int)/(d:Int)+1:=by simp[qU,h]
    have O:(n:Int)/(d:Int)+1≤18446744073709551615:=by rw[←o];(have e5:qU n d=n/d+1:=by simp[qU,h]);omega
    have J:0≤(n:Int)/(d:Int):=by rw[←o];exact Int.natCast_nonneg _
    have G:=hid q;clear q o D;go_enter Tryz.func145,Tryz.ntmps145
    go_wp2
    go_ret
    exact⟨by rw[G.out];rfl,rfl⟩
theorem jD (n d:Nat)(hn:(n:Int)≤18446744073709551615)(S:1≤d)(aa:(d:Int)≤18446744073709551615)(w:World):
    Calls Tryz.prog 86 #[.int .u64 n,.int .u64 d] w fun e w'=>e= .returned (.int .u64 (qU n d))∧w=w':=by
  have X:=YU (n:=n) S;have Z:(1:Int)≤d:=by omega
  have V:((d:Int)==0)=false:=by rw[beq_eq_false_iff_ne];omega
  have o:((n/d:Nat):Int)=(n:Int)/(d:Int):=Int.natCast_ediv n d;have D:((n%d:Nat):Int)=(n:Int)%(d:Int):=Int.natCast_emod n d;have Y:=Nat.div_le_self n d;by_cases h:n%d=0
  · have U:((n:Int)%(d:Int)==0)=true:=by
      rw[beq_iff_eq,←D,h];rfl
    have q:(qU n d:Int)=(n:Int)/(d:Int):=by simp[qU,h]
    have O:(n:Int)/(d:Int)≤18446744073709551615:=by rw[←o];omega
    have J:0≤(n:Int)/(d:Int):=by rw[←o];exact Int.natCast_nonneg _
    have G:=hid q;clear q o D;go_enter Tryz.func86,Tryz.ntmps86
    go_wp2
    go_ret
    exact⟨by rw[G.out];rfl,rfl⟩
  · have U:((n:Int)%(d:Int)==0)=false:=by
      rw[beq_eq_false_iff_ne,←D];intro I;exact h (by exact_mod_cast I)
    have q:(qU n d:Int)=(n:Int)/(d:Int)+1:=by simp[qU,h]
    have O:(n:Int)/(d:Int)+1≤18446744073709551615:=by rw[←o];(have e5:qU n d=n/d+1:=by simp[qU,h]);omega
    have J:0≤(n:Int)/(d:Int):=by rw[←o];exact Int.natCast_nonneg _
    have G:=hid q;clear q o D;go_enter Tryz.func86,Tryz.ntmps86
    go_wp2
    go_ret
    exact⟨by rw[G.out];rfl,rfl⟩
theorem Y6 {W q:World}(D:Below W.heap.size W q):(∀b o,b<W.heap.size→q.cell? ⟨b,o,none⟩=W.cell? ⟨b,o,none⟩)∧(∀b o,b<W.heap.size→q.frozen? ⟨b,o,none⟩=W.frozen? ⟨b,o,none⟩):=
  ⟨fun b o h=>D.cell (p:=⟨b,o,none⟩) h,fun b o h=>D.frozen (p:=⟨b,o,none⟩) h⟩
theorem zS (t:TreeV)(hl:0≤t.l∧t.l≤4294967295)(total:Nat)(Z:(total:Int)≤18446744073709551615)(w:World):
    Calls Tryz.prog 115 #[t.val,.int .u64 total] w fun e w'=>e= .returned (.int .i64 (t.err total))∧Below w.heap.size w w':=by
  by_cases q:t.validE=0
  · have V:=qq q
    have S:=hid q;obtain⟨-, -, -, -, -, -, -, -,I, -, -, -⟩:=V;have U:1≤t.ln:=by unfold TreeV.ln;omega
    have J:(t.ln:Int)≤18446744073709551615:=by unfold TreeV.ln;omega
    have X:=hid (show t.l=(t.ln:Int) by unfold TreeV.ln;omega);by_cases D:t.k=2
    · have Y:(t.k==2)=true:=by simpa using D
      have G:Hid (t.err total=if 281474976710656<qU total t.ln then 2 else 0):=by show _=_;simp[TreeV.err,q,D]
      clear D I q;unfold TreeV.val;go_enter Tryz.func115,Tryz.ntmps115
      go_wp2_with fail
      refine(Jr t _).mono ?_;rintro e O ⟨rfl,o⟩;obtain⟨hc, -⟩:=Y6 o;rw[S.out];go_wp2_with (go_at_call 145;rw[X.out];refine(qdP total t.ln Z U J _).mono ?_;rintro e w2 ⟨rfl,rfl⟩)
      all_goals go_ret
      all_goals refine⟨zW (by rw[G.out];first|rw[if_pos (by omega)]|rw[if_neg (by omega)]),?_⟩
      all_goals exact(Below.alloc Br Nl _).trans (o.mono (by simp))
    · have Y:(t.k==2)=false:=by simpa using D
      have G:Hid (t.err total=0):=by show _=_;simp[TreeV.err,q,D]
      clear D I q;unfold TreeV.val;go_enter Tryz.func115,Tryz.ntmps115
      go_wp2_with fail
      refine(Jr t _).mono ?_;rintro e O ⟨rfl,o⟩;obtain⟨hc, -⟩:=Y6 o;rw[S.out];go_wp2
      go_ret
      exact⟨zW (by rw[G.out]),(Below.alloc Br Nl _).trans (o.mono (by simp))⟩
  · have e1:(t.validE != 0)=true:=by rw[bne_iff_ne];exact q
    have G:Hid (t.err total=t.validE):=by show _=_;simp[TreeV.err,q]
    clear q;unfold TreeV.val;go_enter Tryz.func115,Tryz.ntmps115
    go_wp2_with fail
    refine(Jr t _).mono ?_;rintro e O ⟨rfl,o⟩;go_wp2
    go_ret
    exact⟨zW (by rw[G.out]),(Below.alloc Br Nl _).trans (o.mono (by simp))⟩
theorem qB {w q:World}(o:Obj)(D:Below (w.alloc o).heap.size (w.alloc o) q):Below w.heap.size w q:=
  (Below.alloc Br Nl o).trans (D.mono (by simp))
theorem qcl {k:IntKind}{a b:Int}{v:Value}(h:a=b):Ending.returned (.tuple #[.int k a,v])= .returned (.tuple #[.int k b,v]):=by rw[h]
theorem yj {t:TreeV}{total:Nat}(D:0≤t.l∧t.l≤4294967295)(h:t.err total=0):1≤t.ln∧(t.ln:Int)≤4294967295∧t.l=(t.ln:Int)∧t.validE=0:=by
  have o:=qG h;have q:=qq o;unfold TreeV.ln;omega
theorem qeO (total l:Nat)(o:1≤l)(q:(total:Int)≤18446744073709551615):(lvs total l:Int)≤18446744073709551615:=by
  have:=YU (n:=total) o
  unfold lvs;omega
theorem ju (t:TreeV)(hl:0≤t.l∧t.l≤4294967295)(total:Nat)(Z:(total:Int)≤18446744073709551615)(h:t.err total≠0)(w:World):
    Calls Tryz.prog 51 #[t.val,.int .u64 total] w fun e w'=>e= .returned (.tuple #[.int .u64 0,.int .i64 (t.err total)])∧Below w.heap.size w w':=by
  by_cases o:t.validE=0
  · have V:=qq o
    have H0:=hid o;obtain⟨-, -, -, -, -, -, -, -,S, -, -, -⟩:=V;have U:1≤t.ln:=by unfold TreeV.ln;omega
    have O:(t.ln:Int)≤18446744073709551615:=by unfold TreeV.ln;omega
    have X:=hid (show t.l=(t.ln:Int) by unfold TreeV.ln;omega);have J:t.k=2∧281474976710656<qU total t.ln:=by
      unfold TreeV.err at h;rw[if_neg (by omega)]at h;by_cases G:t.k=2∧281474976710656<qU total t.ln
      · exact G
      · rw[if_neg G]at h;exact absurd rfl h
    have D:Hid (t.err total=2):=by show _=_;simp[TreeV.err,o,J]
    obtain⟨I,aa⟩:=J;have ek:(t.k==2)=true:=by simpa using I
    have en:((qU total t.ln:Int)==0)=false:=by rw[beq_eq_false_iff_ne];omega
    clear I S o h;unfold TreeV.val;go_enter Tryz.func51,Tryz.ntmps51
    go_wp2_with fail
    refine(yl t _).mono ?_;rintro e Y ⟨rfl,q⟩;obtain⟨G, -⟩:=Y6 q;rw[H0.out];go_wp2_with (go_at_call 86;rw[X.out];refine(jD total t.ln Z U O _).mono ?_;rintro e w2 ⟨rfl,rfl⟩)
    go_ret2
    exact⟨by rw[D.out];rfl,qB _ q⟩
  · have e1:(t.validE != 0)=true:=by rw[bne_iff_ne];exact o
    have D:Hid (t.err total=t.validE):=by show _=_;simp[TreeV.err,o]
    clear o h;unfold TreeV.val;go_enter Tryz.func51,Tryz.ntmps51
    go_wp2_with fail
    refine(yl t _).mono ?_;rintro e Y ⟨rfl,q⟩;go_wp2
    go_ret2
    exact⟨by rw[D.out];rfl,qB _ q⟩
theorem Yk (t:TreeV)(hl:0≤t.l∧t.l≤4294967295)(total:Nat)(U:(total:Int)≤18446744073709551615)(h:t.err total=0)(w:World):
    Calls Tryz.prog 51 #[t.val,.int .u64 total] w fun e w'=>e= .returned (.tuple #[.int .u64 (lvs total t.ln),.int .i64 0])∧Below w.heap.size w w':=by
  obtain⟨D,ab,I,V⟩:=yj hl h;have S:=hid I;have X:=hid V;have G:(t.ln:Int)≤18446744073709551615:=by omega
  have aa:=YU (n:=total) D;by_cases Y:qU total t.ln=0
  · have en:((qU total t.ln:Int)==0)=true:=by rw[beq_iff_eq];omega
    have O:Hid ((lvs total t.ln:Int)=1):=by show _=_;unfold lvs;omega
    clear h I V Y;by_cases q:t.k=2
    · have Z:(t.k==2)=true:=by simpa using q
      clear q;unfold TreeV.val;go_enter Tryz.func51,Tryz.ntmps51
      go_wp2_with fail
      refine(yl t _).mono ?_;rintro e w1 ⟨rfl,o⟩;obtain⟨J, -⟩:=Y6 o;rw[X.out];go_wp2_with (go_at_call 86;rw[S.out];refine(jD total t.ln U D G _).mono ?_;rintro e w2 ⟨rfl,rfl⟩)
      go_ret2
      exact⟨qcl (by rw[O.out]),qB _ o⟩
    · have Z:(t.k==2)=false:=by simpa using q
      clear q;unfold TreeV.val;go_enter Tryz.func51,Tryz.ntmps51
      go_wp2_with fail
      refine(yl t _).mono ?_;rintro e w1 ⟨rfl,o⟩;obtain⟨J, -⟩:=Y6 o;rw[X.out];go_wp2_with (go_at_call 86;rw[S.out];refine(jD total t.ln U D G _).mono ?_;rintro e w2 ⟨rfl,rfl⟩)
      go_ret2
      exact⟨qcl (by rw[O.out]),qB _ o⟩
  · have en:((qU total t.ln:Int)==0)=false:=by rw[beq_eq_false_iff_ne];omega
    have O:Hid ((lvs total t.ln:Int)=qU total t.ln):=by show _=_;unfold lvs;omega
    by_cases q:t.k=2
    · have Z:(t.k==2)=true:=by simpa using q
      have ac:qU total t.ln≤281474976710656:=by
        unfold TreeV.err at h;rw[if_neg (by omega)]at h;by_cases J:281474976710656<qU total t.ln
        · rw[if_pos ⟨q,J⟩]at h;cases h
        · omega
      clear q h I V Y;unfold TreeV.val;go_enter Tryz.func51,Tryz.ntmps51
      go_wp2_with fail
      refine(yl t _).mono ?_;rintro e w1 ⟨rfl,o⟩;obtain⟨J, -⟩:=Y6 o;rw[X.out];go_wp2_with (go_at_call 86;rw[S.out];refine(jD total t.ln U D G _).mono ?_;rintro e w2 ⟨rfl,rfl⟩)
      go_ret2
      exact⟨qcl (by rw[O.out]),qB _ o⟩
    · have Z:(t.k==2)=false:=by simpa using q
      clear q h I V Y;unfold TreeV.val;go_enter Tryz.func51,Tryz.ntmps51
      go_wp2_with fail
      refine(yl t _).mono ?_;rintro e w1 ⟨rfl,o⟩;obtain⟨J, -⟩:=Y6 o;rw[X.out];go_wp2_with (go_at_call 86;rw[S.out];refine(jD total t.ln U D G _).mono ?_;rintro e w2 ⟨rfl,rfl⟩)
      go_ret2
      exact⟨qcl (by rw[O.out]),qB _ o⟩
end Go.Proofs.YthjoojnlnlmljaaGreat
namespace Go.Proofs.YthjoojnlnlmljaaGreat
open Go.ChangeShapes Go.WideShapes Go.ChangeAt Go.RowKit Go.Joins Go.Maps
open Go.Lib (hid)
def zM (n:Nat):Value:= .int .u64 n
theorem ZL:(Tryz.prog.info? 44).map (fun i=>(i.zero,i.size,i.bytes))=some (some (.int .u64 0),1,8):=by kernel_rfl
theorem YB {f p r m fuel:Nat}(o:1≤fuel)(h:f=0∨r=p - 1):qP f p fuel r m=[1]:=by
  obtain⟨k,rfl⟩: ∃k,fuel=k+1:=⟨fuel - 1,by omega⟩;simp[qP,h]
theorem jV {f p r m fuel:Nat}(q:1≤fuel)(h: ¬(f=0∨r=p - 1))(o:qU m f=1):qP f p fuel r m=[1]:=by
  obtain⟨k,rfl⟩: ∃k,fuel=k+1:=⟨fuel - 1,by omega⟩;simp only[qP,h,if_false,o];simp
theorem js {f p r m fuel:Nat}(h: ¬(f=0∨r=p - 1))(o:qU m f≠1):qP f p (fuel+1) r m=qU m f::qP f p fuel (r+1) (qU m f):=by
  simp only[qP,h,if_false,o]
def qis (t:TreeV)(total:Nat)(w0:World)(n v i:Value)(wr:World):Prop:=
  ∃(r m fuel:Nat) (pre:List Nat),n= .int .u64 m∧i= .int .i64 r∧1≤r∧r+1≤t.pn∧t.pn≤fuel+r∧(m:Int)≤18446744073709551615∧pre.length=r∧
    Qe t.fn t.pn (lvs total t.ln)=pre++qP t.fn t.pn fuel r m∧wr.ownsRow w0.heap.size 44 1 v pre.length (pre.map zM)∧Below w0.heap.size w0 wr
theorem qdj (t:TreeV)(q:0≤t.l∧t.l≤4294967295)(total:Nat)(D:(total:Int)≤18446744073709551615)(h:t.err total≠0)(w:World):
    Calls Tryz.prog 87 #[t.val,.int .u64 total] w fun e w'=>e= .returned (.tuple #[.slice none 0 0,.int .i64 (t.err total)])∧Below w.heap.size w w':=by
  have I:(t.err total != 0)=true:=by rw[bne_iff_ne];exact h
  unfold TreeV.val;go_enter Tryz.func87,Tryz.ntmps87
  have H:=hid h;clear h;go_wp2_with fail
  refine(ju t q total D H.out _).mono ?_;rintro e G ⟨rfl,o⟩;go_wp2
  go_ret2
  exact⟨rfl,qB _ o⟩
theorem qaH (t:TreeV)(hl:0≤t.l∧t.l≤4294967295)(total:Nat)(ht:(total:Int)≤18446744073709551615)(h:t.err total=0)(w:World):
    Calls Tryz.prog 87 #[t.val,.int .u64 total] w fun e w'=> ∃v,e= .returned (.tuple #[v,.int .i64 0])∧
      w'.ownsRow w.heap.size 44 1 v (Qe t.fn t.pn (lvs total t.ln)).length ((Qe t.fn t.pn (lvs total t.ln)).map zM)∧Below w.heap.size w w':=by
  obtain⟨i0,hi,ac,ad,ae⟩:=info_parts ZL;obtain⟨aq,aF, -,h0⟩:=yj hl h;have hv:=qq h0;obtain⟨-, -, -, -, -,hf,ax,aB, -, -, -, -⟩:=hv;have ao:=qeO total t.ln aq ht;have am:t.p=(t.pn:Int):=by unfold TreeV.pn;omega
  have an:t.f=(t.fn:Int):=by unfold TreeV.fn;omega
  have H:=hid h;have HP:=hid am;have HF:=hid an;have ay:2≤t.pn:=by omega
  have az:t.pn≤255:=by omega
  have aE:t.fn≤255:=by omega
  clear h h0 am an;unfold TreeV.val;go_enter Tryz.func87,Tryz.ntmps87
  go_wp2_with fail
  refine(Yk t hl total ht H.out _).mono ?_;rintro e D ⟨rfl,U⟩;go_wp2
  have ak:D.cell? ⟨w.heap.size,2,none⟩=some (.int .i64 t.fn):=by rw[←HF.out];exact(U.cell (p:=⟨w.heap.size,2,none⟩) (by simp)).trans (by simp[go_sem])
  have al:D.cell? ⟨w.heap.size,3,none⟩=some (.int .i64 t.pn):=by rw[←HP.out];exact(U.cell (p:=⟨w.heap.size,3,none⟩) (by simp)).trans (by simp[go_sem])
  have I:w.heap.size<D.heap.size:=by have:=U.size;simp at this;omega
  go_loopw [6,8,9] (fun n v i wr=>qis t total D n v i wr) (fun _ _ i _=>t.pn - (intOf i).toNat)
  case atStart=>
    refine⟨1,lvs total t.ln,t.pn,[lvs total t.ln],rfl,rfl,Nat.le_refl _,by omega,by omega,ao,rfl,rfl,?_,?_⟩
    · exact World.ownsRow_lit D #[.int .u64 (lvs total t.ln)] 1 Nl (by unfold maxLen;omega) rfl
    · exact Below.alloc Br Nl _
  case round=>
    obtain⟨r,m,fuel,Z,rfl,rfl,aD,au,aA,hm,ai,aj,G,S⟩:=hrel;have aG:wr.cell? ⟨w.heap.size,2,none⟩=some (.int .i64 t.fn):=(S.cell (p:=⟨w.heap.size,2,none⟩) I).trans ak;have aC:wr.cell? ⟨w.heap.size,3,none⟩=some (.int .i64 t.pn):=(S.cell (p:=⟨w.heap.size,3,none⟩) I).trans al;have af:D.heap.size≤wr.heap.size:=S.size;have ag:=hid aj;have ap:=hid ai;have ar:Z.length≤254:=by omega
    have aa:1≤fuel:=by omega
    clear aj ak al ai;by_cases V:t.fn=0
    · have e1:((t.fn:Int)==0)=true:=by rw[beq_iff_eq];omega
      have HS:=hid (YB (m:=m) aa (.inl V:t.fn=0∨r=t.pn - 1));clear V;go_wp2_with (at_builtin;refine wpList_append_own _ rfl _ _ 105 rfl D.heap.size 44 i0 (.int .u64 0) 1 8 Tryz.underlying105 hi ac ad ae rfl (by decide) _ _ _ rfl (G.alloc _) ⟨wr.heap.size,0,none⟩ 1 1 [.int .u64 1] rfl rfl (cell_one_new _ _ _) (by simp[Value.oneCell']) (by unfold maxLen;omega) (by omega) (by simp;omega) ?_;intro v' X q o _)
      go_ret2
      have O:Below D.heap.size D X:=(S.alloc af _).grown o (by simp;omega) (fun k e=>(G.lt k e).1);refine⟨v',rfl,?_,((qB _ U).trans (O.mono (Nat.le_of_lt I)))⟩;have J:Qe t.fn t.pn (lvs total t.ln)=Z++[1]:=by rw[ag.out,HS.out]
      rw[J];have:=ownsRow_le q (Nat.le_of_lt I)
      simpa [zM] using this
    have e1:((t.fn:Int)==0)=false:=by rw[beq_eq_false_iff_ne];omega
    by_cases Y:r=t.pn - 1
    · have e2:((r:Int)==(t.pn:Int) - 1)=true:=by rw[beq_iff_eq];omega
      have HS:=hid (YB (m:=m) aa (.inr Y:t.fn=0∨r=t.pn - 1));clear Y V;go_wp2_with (at_builtin;refine wpList_append_own _ rfl _ _ 105 rfl D.heap.size 44 i0 (.int .u64 0) 1 8 Tryz.underlying105 hi ac ad ae rfl (by decide) _ _ _ rfl (G.alloc _) ⟨wr.heap.size,0,none⟩ 1 1 [.int .u64 1] rfl rfl (cell_one_new _ _ _) (by simp[Value.oneCell']) (by unfold maxLen;omega) (by omega) (by simp;omega) ?_;intro v' X q o _)
      go_ret2
      have O:Below D.heap.size D X:=(S.alloc af _).grown o (by simp;omega) (fun k e=>(G.lt k e).1);refine⟨v',rfl,?_,((qB _ U).trans (O.mono (Nat.le_of_lt I)))⟩;have J:Qe t.fn t.pn (lvs total t.ln)=Z++[1]:=by rw[ag.out,HS.out]
      rw[J];have:=ownsRow_le q (Nat.le_of_lt I)
      simpa [zM] using this
    have e2:((r:Int)==(t.pn:Int) - 1)=false:=by rw[beq_eq_false_iff_ne];omega
    have ab: ¬(t.fn=0∨r=t.pn - 1):=fun h=>h.elim V Y
    have av:=YU (n:=m) (show 1≤t.fn by omega);by_cases h1:qU m t.fn=1
    · have e3:((qU m t.fn:Int)==1)=true:=by rw[beq_iff_eq];omega
      have HS:=hid (jV aa ab h1);have H1:=hid h1;have ah:1≤t.fn:=by omega
      clear Y V ab h1;go_wp2_with (first|(at_builtin;refine wpList_append_own _ rfl _ _ 105 rfl D.heap.size 44 i0 (.int .u64 0) 1 8 Tryz.underlying105 hi ac ad ae rfl (by decide) _ _ _ rfl (G.alloc _) ⟨wr.heap.size,0,none⟩ 1 1 [.int .u64 (qU m t.fn:Nat)] rfl rfl (cell_one_new _ _ _) (by simp[Value.oneCell']) (by unfold maxLen;omega) (by omega) (by simp;omega) ?_;intro v' X q o _)|(go_at_call 86;refine(jD m t.fn hm ah (by omega) _).mono ?_;rintro e X ⟨rfl,rfl⟩))
      go_ret2
      have O:Below D.heap.size D X:=(S.alloc af _).grown o (by simp;omega) (fun k e=>(G.lt k e).1);refine⟨v',rfl,?_,((qB _ U).trans (O.mono (Nat.le_of_lt I)))⟩;have J:Qe t.fn t.pn (lvs total t.ln)=Z++[qU m t.fn]:=by rw[ag.out,HS.out,H1.out]
      rw[J];have:=ownsRow_le q (Nat.le_of_lt I)
      simpa [zM] using this
    · have e3:((qU m t.fn:Int)==1)=false:=by rw[beq_eq_false_iff_ne];omega
      obtain⟨fu,rfl⟩: ∃fu,fuel=fu+1:=⟨fuel - 1,by omega⟩;have HS:=hid (js (fuel:=fu) ab h1);have ah:1≤t.fn:=by omega
      have aw:r+2≤t.pn:=by omega
      clear Y V ab h1;go_wp2_with (first|(at_builtin;refine wpList_append_own _ rfl _ _ 105 rfl D.heap.size 44 i0 (.int .u64 0) 1 8 Tryz.underlying105 hi ac ad ae rfl (by decide) _ _ _ rfl (G.alloc _) ⟨wr.heap.size,0,none⟩ 1 1 [.int .u64 (qU m t.fn:Nat)] rfl rfl (cell_one_new _ _ _) (by simp[Value.oneCell']) (by unfold maxLen;omega) (by omega) (by simp;omega) ?_;intro v' X q o _)|(go_at_call 86;refine(jD m t.fn hm ah (by omega) _).mono ?_;rintro e X ⟨rfl,rfl⟩))
      go_roundw
      case rel=>
        have O:Below D.heap.size D X:=(S.alloc af _).grown o (by simp;omega) (fun k e=>(G.lt k e).1);refine⟨r+1,qU m t.fn,fu,Z++[qU m t.fn],rfl,by simp,by omega,by omega,by omega,by omega,by simp[ap.out],?_,?_,O⟩
        · rw[ag.out,HS.out];simp
        · simpa [zM] using q
      case measure=>simp[intOf];omega
end Go.Proofs.YthjoojnlnlmljaaGreat
