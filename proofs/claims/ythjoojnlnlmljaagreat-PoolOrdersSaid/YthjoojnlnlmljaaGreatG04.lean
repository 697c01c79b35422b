/- The walks of the reference's Valid; Valid on both sides, of every tree. No condition. -/
import Derived.Test.YthjoojnlnlmljaaGreatP00
import Derived.Test.YthjoojnlnlmljaaGreatG03
import Derived.OpenShut
import Derived.Deep.Fields
import Derived.Lib.SmallJoins
import Derived.Maps.AppendAt
set_option linter.all false
set_option maxRecDepth 100000
set_option maxHeartbeats 8000000
namespace Go.Proofs.YthjoojnlnlmljaaGreat
open Go.ChangeShapes Go.WideShapes Go.ChangeAt Go.RowKit
open Go.Lib (hid)
theorem qe4 (w:World):Calls Tryz.prog 96 #[.int .i64 1] w fun e w'=>e= .returned (.tuple #[.int .i64 64,.int .i64 16])∧w=w':=by
  go_enter Tryz.func96,Tryz.ntmps96
  go_wp2
  go_ret2
  exact⟨rfl,rfl⟩
theorem qe3 (w:World):Calls Tryz.prog 96 #[.int .i64 2] w fun e w'=>e= .returned (.tuple #[.int .i64 32,.int .i64 8])∧w=w':=by
  go_enter Tryz.func96,Tryz.ntmps96
  go_wp2
  go_ret2
  exact⟨rfl,rfl⟩
theorem qdN (k:Int)(q:k≠1)(o:k≠2)(w:World):Calls Tryz.prog 96 #[.int .i64 k] w fun e w'=>e= .returned (.tuple #[.int .i64 0,.int .i64 0])∧w=w':=by
  have D:(k==1)=false:=by simpa using q
  have G:(k==2)=false:=by simpa using o
  go_enter Tryz.func96,Tryz.ntmps96
  go_wp2
  go_ret2
  exact⟨rfl,rfl⟩
theorem qdK (t:TreeV)(q:t.k≠1)(o:t.k≠2)(w:World):Calls Tryz.prog 58 #[t.val] w fun e w'=>e= .returned (.int .i64 1)∧Below w.heap.size w w':=by
  unfold TreeV.val;go_enter Tryz.func58,Tryz.ntmps58
  go_wp2_with (go_at_call 96;refine(qdN t.k q o _).mono ?_;rintro e w' ⟨rfl,rfl⟩)
  go_ret
  exact⟨rfl,by repeat(first|exact Below.refl _ _|(refine Below.alloc ?_ (by simp) _))⟩
theorem qe0 (t:TreeV)(D:t.k=1)(w:World):Calls Tryz.prog 58 #[t.val] w fun e w'=>e= .returned (.int .i64 t.validE)∧Below w.heap.size w w':=by
  obtain⟨k,d,f,p,l,i,U,J,V,Z,X,O,I,Y,G⟩:=t;obtain rfl:k=1:=D;have o:zt 1=64:=rfl;have q:jJ 1=16:=rfl;simp only[TreeV.val];go_enter Tryz.func58,Tryz.ntmps58
  go_wp2_with (go_at_call 96;refine(qe4 _).mono ?_;rintro e w' ⟨rfl,rfl⟩)
  all_goals go_ret
  all_goals refine⟨Zg ?_,by repeat(first|exact Below.refl _ _|(refine Below.alloc ?_ (by simp) _))⟩
  all_goals try simp only[beq_iff_eq,beq_eq_false_iff_ne,bne_iff_ne,bne_eq_false_iff_eq]at*
  all_goals simp only[TreeV.validE,o,q]
  all_goals(repeat' split)<;>omega
theorem qeZ (t:TreeV)(D:t.k=2)(w:World):Calls Tryz.prog 58 #[t.val] w fun e w'=>e= .returned (.int .i64 t.validE)∧Below w.heap.size w w':=by
  obtain⟨k,d,f,p,l,i,U,J,V,Z,X,O,I,Y,G⟩:=t;obtain rfl:k=2:=D;have o:zt 2=32:=rfl;have q:jJ 2=8:=rfl;simp only[TreeV.val];go_enter Tryz.func58,Tryz.ntmps58
  go_wp2_with (go_at_call 96;refine(qe3 _).mono ?_;rintro e w' ⟨rfl,rfl⟩)
  all_goals go_ret
  all_goals refine⟨Zg ?_,by repeat(first|exact Below.refl _ _|(refine Below.alloc ?_ (by simp) _))⟩
  all_goals try simp only[beq_iff_eq,beq_eq_false_iff_ne,bne_iff_ne,bne_eq_false_iff_eq]at*
  all_goals simp only[TreeV.validE,o,q]
  all_goals(repeat' split)<;>omega
theorem JS (t:TreeV)(w:World):Calls Tryz.prog 56 #[t.val] w fun e w'=>e= .returned (.int .i64 t.validE)∧Below w.heap.size w w':=by
  by_cases q:t.k=1
  · exact qif t q w
  by_cases o:t.k=2
  · exact qie t o w
  have e:t.validE=1:=by simp[TreeV.validE,q,o]
  rw[e];exact qg2 t q o w
theorem yt (t:TreeV)(w:World):Calls Tryz.prog 58 #[t.val] w fun e w'=>e= .returned (.int .i64 t.validE)∧Below w.heap.size w w':=by
  by_cases q:t.k=1
  · exact qe0 t q w
  by_cases o:t.k=2
  · exact qeZ t o w
  have e:t.validE=1:=by simp[TreeV.validE,q,o]
  rw[e];exact qdK t q o w
end Go.Proofs.YthjoojnlnlmljaaGreat
namespace Go.Proofs.YthjoojnlnlmljaaGreat
open Go.ChangeShapes Go.WideShapes Go.ChangeAt Go.RowKit Go.Joins Go.Deep
open Go.Lib (hid)
section
variable {H:Type} {enc:TypeId×Value→H} {P:Program} {w:World} {base:Nat} {spare:Nat→Bool} {held:Bool}
end
theorem qiK {α:Type}{l:List α}(h:l.length=9): ∃a b c d e f g i j,l=[a,b,c,d,e,f,g,i,j]:=by
  match l,h with
  | [a,b,c,d,e,f,g,i,j],_=>exact⟨a,b,c,d,e,f,g,i,j,rfl⟩
theorem qfF:Tryz.prog.cellsOf 22=1:=by kernel_rfl
theorem jz:Tryz.prog.cellsOf 3=1:=by kernel_rfl
theorem qgV:Tryz.prog.cellsOf 23=1:=by kernel_rfl
theorem Z6:Tryz.prog.cellsOf 24=1:=by kernel_rfl
theorem qhU:Tryz.prog.cellsOf 5=1:=by kernel_rfl
theorem qfD:Tryz.prog.cellsOf 26=9:=by kernel_rfl
end Go.Proofs.YthjoojnlnlmljaaGreat
namespace Go.Proofs.YthjoojnlnlmljaaGreat
open Go.ChangeShapes Go.WideShapes Go.ChangeAt Go.RowKit
open Go.Lib (hid)
def nth (l:List Nat)(k:Nat):Nat:=l.getD k 0
theorem YL (a:Nat)(l:List Nat)(k:Nat):nth (a::l) (k+1)=nth l k:=rfl
def qY (n d:Nat):Nat:=if n%d=0 then n/d else n/d+1
theorem YM {n d:Nat}(I:1≤d):qY n d≤n:=by
  unfold qY;split
  · exact Nat.div_le_self _ _
  · rename_i h
    have q:2≤d:=by
      rcases Nat.lt_or_ge d 2 with o|o
      · have:d=1:=by omega
        subst this;simp[Nat.mod_one]at h
      · exact o
    have D:0<n:=by
      rcases Nat.eq_zero_or_pos n with o|o
      · subst o;simp at h
      · exact o
    have G:=Nat.div_lt_self D q;exact G
theorem Z7 {n d:Nat}(q:1≤n):1≤qY n d:=by
  unfold qY;split
  · rename_i h
    have:=Nat.div_add_mod n d
    rw[h]at this;rcases Nat.eq_zero_or_pos (n/d)with o|o
    · rw[o]at this;simp at this;omega
    · exact o
  · exact Nat.le_add_left _ _
def lvs (total l:Nat):Nat:=max 1 (qY total l)
def qT (f p:Nat):Nat→Nat→Nat→List Nat
  | 0,_,_=>[]
  | fuel+1,row,n=>(if f=0∨row=p - 1 then 1 else qY n f)::(if(if f=0∨row=p - 1 then 1 else qY n f)=1 then [] else qT f p fuel (row+1) (if f=0∨row=p - 1 then 1 else qY n f))
def Qt (f p n:Nat):List Nat:=n::qT f p p 1 n
def qG:Nat→List Nat→List (Nat×Nat)
  | _,[]=>[]
  | r,n::l=>(r,n)::qG (r+1) l
theorem yn: ∀(r:Nat) (l:List Nat),(qG r l).length=l.length
  | _,[]=>rfl
  | r,n::l=>by simp[qG,yn (r+1) l]
theorem Zu (f p:Nat): ∀(fuel row n:Nat),(qT f p fuel row n).length≤fuel
  | 0,_,_=>by simp[qT]
  | fuel+1,row,n=>by
    simp only[qT,List.length_cons];generalize (if f=0∨row=p - 1 then 1 else qY n f)=m;have:=Zu f p fuel (row+1) m
    by_cases h:m=1
    · simp[h]
    · simp only[h,if_false];omega
def TreeV.ln (t:TreeV):Nat:=t.l.toNat
def TreeV.fn (t:TreeV):Nat:=t.f.toNat
def TreeV.pn (t:TreeV):Nat:=t.p.toNat
def TreeV.err (t:TreeV)(total:Nat):Int:=if t.validE≠0 then t.validE else if t.k=2∧281474976710656<qY total t.ln then 2 else 0
theorem qq {t:TreeV}(h:t.validE=0):(t.k=1∨t.k=2)∧1≤t.d∧t.d≤zt t.k∧1≤t.i∧t.i≤zt t.k∧(t.f=0∨2≤t.f∧t.f≤255)∧2≤t.p∧t.p≤255∧t.l≠0∧
    (t.kl:Int)≤zt t.k∧((t.sl:Int)=0∨(t.sl:Int)=jJ t.k)∧((t.pl:Int)=0∨(t.pl:Int)=jJ t.k):=by
  unfold TreeV.validE at h;split at h
  · cases h
  · split at h
    · cases h
    · split at h
      · cases h
      · split at h
        · cases h
        · split at h
          · cases h
          · refine⟨by omega,by omega,by omega,by omega,by omega,by omega,by omega,by omega,by omega,by omega,?_,?_⟩<;>omega
theorem qW {t:TreeV}{total:Nat}(h:t.err total=0):t.validE=0:=by
  unfold TreeV.err at h;split at h
  · omega
  · omega
theorem qeo (n d:Nat)(hn:(n:Int)≤18446744073709551615)(U:1≤d)(aa:(d:Int)≤18446744073709551615)(w:World):
    Calls Tryz.prog 145 #[.int .u64 n,.int .u64 d] w fun e w'=>e= .returned (.int .u64 (qY n d))∧w=w':=by
  have Y:=YM (n:=n) U;have ab:(1:Int)≤d:=by omega
  have Z:((d:Int)==0)=false:=by rw[beq_eq_false_iff_ne];omega
  have o:((n/d:Nat):Int)=(n:Int)/(d:Int):=Int.natCast_ediv n d;have D:((n%d:Nat):Int)=(n:Int)%(d:Int):=Int.natCast_emod n d;have X:=Nat.div_le_self n d;by_cases h:n%d=0
  · have I:((n:Int)%(d:Int) != 0)=false:=by
      rw[bne_eq_false_iff_eq,←D,h];rfl
    have q:(qY n d:Int)=(n:Int)/(d:Int):=by simp[qY,h]
    have O:(n:Int)/(d:Int)≤18446744073709551615:=by rw[←o];omega
    have J:0≤(n:Int)/(d:Int):=by rw[←o];exact Int.natCast_nonneg _
    have G:=hid q;clear q o D;go_enter Tryz.func145,Tryz.ntmps145
    go_wp2
    go_ret
    exact⟨by rw[G.out];rfl,rfl⟩
  · have I:((n:Int)%(d:Int) != 0)=true:=by
      rw[bne_iff_ne,←D];intro V;exact h (by exact_mod_cast V)
    have q:(qY n d:Int)=(n:Int)/(d:Int)+1:=by simp[qY,h]
    have O:(n:Int)/(d:Int)+1≤18446744073709551615:=by rw[←o];(have e5:qY n d=n/d+1:=by simp[qY,h]);omega
    have J:0≤(n:Int)/(d:Int):=by rw[←o];exact Int.natCast_nonneg _
    have G:=hid q;clear q o D;go_enter Tryz.func145,Tryz.ntmps145
    go_wp2
    go_ret
    exact⟨by rw[G.out];rfl,rfl⟩
theorem jW (n d:Nat)(hn:(n:Int)≤18446744073709551615)(U:1≤d)(aa:(d:Int)≤18446744073709551615)(w:World):
    Calls Tryz.prog 86 #[.int .u64 n,.int .u64 d] w fun e w'=>e= .returned (.int .u64 (qY n d))∧w=w':=by
  have Y:=YM (n:=n) U;have ab:(1:Int)≤d:=by omega
  have Z:((d:Int)==0)=false:=by rw[beq_eq_false_iff_ne];omega
  have o:((n/d:Nat):Int)=(n:Int)/(d:Int):=Int.natCast_ediv n d;have D:((n%d:Nat):Int)=(n:Int)%(d:Int):=Int.natCast_emod n d;have X:=Nat.div_le_self n d;by_cases h:n%d=0
  · have I:((n:Int)%(d:Int)==0)=true:=by
      rw[beq_iff_eq,←D,h];rfl
    have q:(qY n d:Int)=(n:Int)/(d:Int):=by simp[qY,h]
    have O:(n:Int)/(d:Int)≤18446744073709551615:=by rw[←o];omega
    have J:0≤(n:Int)/(d:Int):=by rw[←o];exact Int.natCast_nonneg _
    have G:=hid q;clear q o D;go_enter Tryz.func86,Tryz.ntmps86
    go_wp2
    go_ret
    exact⟨by rw[G.out];rfl,rfl⟩
  · have I:((n:Int)%(d:Int)==0)=false:=by
      rw[beq_eq_false_iff_ne,←D];intro V;exact h (by exact_mod_cast V)
    have q:(qY n d:Int)=(n:Int)/(d:Int)+1:=by simp[qY,h]
    have O:(n:Int)/(d:Int)+1≤18446744073709551615:=by rw[←o];(have e5:qY n d=n/d+1:=by simp[qY,h]);omega
    have J:0≤(n:Int)/(d:Int):=by rw[←o];exact Int.natCast_nonneg _
    have G:=hid q;clear q o D;go_enter Tryz.func86,Tryz.ntmps86
    go_wp2
    go_ret
    exact⟨by rw[G.out];rfl,rfl⟩
theorem zi {W q:World}(D:Below W.heap.size W q):(∀b o,b<W.heap.size→q.cell? ⟨b,o,none⟩=W.cell? ⟨b,o,none⟩)∧(∀b o,b<W.heap.size→q.frozen? ⟨b,o,none⟩=W.frozen? ⟨b,o,none⟩):=
  ⟨fun b o h=>D.cell (p:=⟨b,o,none⟩) h,fun b o h=>D.frozen (p:=⟨b,o,none⟩) h⟩
theorem jX (t:TreeV)(hl:0≤t.l∧t.l≤4294967295)(total:Nat)(X:(total:Int)≤18446744073709551615)(w:World):
    Calls Tryz.prog 115 #[t.val,.int .u64 total] w fun e w'=>e= .returned (.int .i64 (t.err total))∧Below w.heap.size w w':=by
  by_cases q:t.validE=0
  · have Z:=qq q
    have J:=hid q;obtain⟨-, -, -, -, -, -, -, -,I, -, -, -⟩:=Z;have U:1≤t.ln:=by unfold TreeV.ln;omega
    have O:(t.ln:Int)≤18446744073709551615:=by unfold TreeV.ln;omega
    have HL:=hid (show t.l=(t.ln:Int) by unfold TreeV.ln;omega);by_cases D:t.k=2
    · have Y:(t.k==2)=true:=by simpa using D
      have G:Hid (t.err total=if 281474976710656<qY total t.ln then 2 else 0):=by show _=_;simp[TreeV.err,q,D]
      clear D I q;unfold TreeV.val;go_enter Tryz.func115,Tryz.ntmps115
      go_wp2_with fail
      refine(JS t _).mono ?_;rintro e V ⟨rfl,o⟩;obtain⟨hc, -⟩:=zi o;rw[J.out];go_wp2_with (go_at_call 145;rw[HL.out];refine(qeo total t.ln X U O _).mono ?_;rintro e w2 ⟨rfl,rfl⟩)
      all_goals go_ret
      all_goals refine⟨Zg (by rw[G.out];first|rw[if_pos (by omega)]|rw[if_neg (by omega)]),?_⟩
      all_goals exact(Below.alloc Br Nl _).trans (o.mono (by simp))
    · have Y:(t.k==2)=false:=by simpa using D
      have G:Hid (t.err total=0):=by show _=_;simp[TreeV.err,q,D]
      clear D I q;unfold TreeV.val;go_enter Tryz.func115,Tryz.ntmps115
      go_wp2_with fail
      refine(JS t _).mono ?_;rintro e V ⟨rfl,o⟩;obtain⟨hc, -⟩:=zi o;rw[J.out];go_wp2
      go_ret
      exact⟨Zg (by rw[G.out]),(Below.alloc Br Nl _).trans (o.mono (by simp))⟩
  · have e1:(t.validE != 0)=true:=by rw[bne_iff_ne];exact q
    have G:Hid (t.err total=t.validE):=by show _=_;simp[TreeV.err,q]
    clear q;unfold TreeV.val;go_enter Tryz.func115,Tryz.ntmps115
    go_wp2_with fail
    refine(JS t _).mono ?_;rintro e V ⟨rfl,o⟩;go_wp2
    go_ret
    exact⟨Zg (by rw[G.out]),(Below.alloc Br Nl _).trans (o.mono (by simp))⟩
theorem qH {w q:World}(o:Obj)(D:Below (w.alloc o).heap.size (w.alloc o) q):Below w.heap.size w q:=
  (Below.alloc Br Nl o).trans (D.mono (by simp))
theorem qcS {k:IntKind}{a b:Int}{v:Value}(h:a=b):Ending.returned (.tuple #[.int k a,v])= .returned (.tuple #[.int k b,v]):=by rw[h]
theorem QF {t:TreeV}{total:Nat}(q:0≤t.l∧t.l≤4294967295)(h:t.err total=0):1≤t.ln∧(t.ln:Int)≤4294967295∧t.l=(t.ln:Int)∧t.validE=0:=by
  have o:=qW h;have D:=qq o;unfold TreeV.ln;omega
theorem qfm (total l:Nat)(o:1≤l)(q:(total:Int)≤18446744073709551615):(lvs total l:Int)≤18446744073709551615:=by
  have:=YM (n:=total) o
  unfold lvs;omega
theorem jN (t:TreeV)(hl:0≤t.l∧t.l≤4294967295)(total:Nat)(X:(total:Int)≤18446744073709551615)(h:t.err total≠0)(w:World):
    Calls Tryz.prog 51 #[t.val,.int .u64 total] w fun e w'=>e= .returned (.tuple #[.int .u64 0,.int .i64 (t.err total)])∧Below w.heap.size w w':=by
  by_cases o:t.validE=0
  · have Z:=qq o
    have Y:=hid o;obtain⟨-, -, -, -, -, -, -, -,O, -, -, -⟩:=Z;have V:1≤t.ln:=by unfold TreeV.ln;omega
    have U:(t.ln:Int)≤18446744073709551615:=by unfold TreeV.ln;omega
    have HL:=hid (show t.l=(t.ln:Int) by unfold TreeV.ln;omega);have J:t.k=2∧281474976710656<qY total t.ln:=by
      unfold TreeV.err at h;rw[if_neg (by omega)]at h;by_cases G:t.k=2∧281474976710656<qY total t.ln
      · exact G
      · rw[if_neg G]at h;exact absurd rfl h
    have D:Hid (t.err total=2):=by show _=_;simp[TreeV.err,o,J]
    obtain⟨I,aa⟩:=J;have ek:(t.k==2)=true:=by simpa using I
    have en:((qY total t.ln:Int)==0)=false:=by rw[beq_eq_false_iff_ne];omega
    clear I O o h;unfold TreeV.val;go_enter Tryz.func51,Tryz.ntmps51
    go_wp2_with fail
    refine(yt t _).mono ?_;rintro e w1 ⟨rfl,q⟩;obtain⟨G, -⟩:=zi q;rw[Y.out];go_wp2_with (go_at_call 86;rw[HL.out];refine(jW total t.ln X V U _).mono ?_;rintro e w2 ⟨rfl,rfl⟩)
    go_ret2
    exact⟨by rw[D.out];rfl,qH _ q⟩
  · have e1:(t.validE != 0)=true:=by rw[bne_iff_ne];exact o
    have D:Hid (t.err total=t.validE):=by show _=_;simp[TreeV.err,o]
    clear o h;unfold TreeV.val;go_enter Tryz.func51,Tryz.ntmps51
    go_wp2_with fail
    refine(yt t _).mono ?_;rintro e w1 ⟨rfl,q⟩;go_wp2
    go_ret2
    exact⟨by rw[D.out];rfl,qH _ q⟩
theorem Zi (t:TreeV)(hl:0≤t.l∧t.l≤4294967295)(total:Nat)(V:(total:Int)≤18446744073709551615)(h:t.err total=0)(w:World):
    Calls Tryz.prog 51 #[t.val,.int .u64 total] w fun e w'=>e= .returned (.tuple #[.int .u64 (lvs total t.ln),.int .i64 0])∧Below w.heap.size w w':=by
  obtain⟨D,ac,G,U⟩:=QF hl h;have Y:=hid G;have X:=hid U;have I:(t.ln:Int)≤18446744073709551615:=by omega
  have aa:=YM (n:=total) D;by_cases hn:qY total t.ln=0
  · have en:((qY total t.ln:Int)==0)=true:=by rw[beq_iff_eq];omega
    have O:Hid ((lvs total t.ln:Int)=1):=by show _=_;unfold lvs;omega
    clear h G U hn;by_cases q:t.k=2
    · have Z:(t.k==2)=true:=by simpa using q
      clear q;unfold TreeV.val;go_enter Tryz.func51,Tryz.ntmps51
      go_wp2_with fail
      refine(yt t _).mono ?_;rintro e w1 ⟨rfl,o⟩;obtain⟨J, -⟩:=zi o;rw[X.out];go_wp2_with (go_at_call 86;rw[Y.out];refine(jW total t.ln V D I _).mono ?_;rintro e w2 ⟨rfl,rfl⟩)
      go_ret2
      exact⟨qcS (by rw[O.out]),qH _ o⟩
    · have Z:(t.k==2)=false:=by simpa using q
      clear q;unfold TreeV.val;go_enter Tryz.func51,Tryz.ntmps51
      go_wp2_with fail
      refine(yt t _).mono ?_;rintro e w1 ⟨rfl,o⟩;obtain⟨J, -⟩:=zi o;rw[X.out];go_wp2_with (go_at_call 86;rw[Y.out];refine(jW total t.ln V D I _).mono ?_;rintro e w2 ⟨rfl,rfl⟩)
      go_ret2
      exact⟨qcS (by rw[O.out]),qH _ o⟩
  · have en:((qY total t.ln:Int)==0)=false:=by rw[beq_eq_false_iff_ne];omega
    have O:Hid ((lvs total t.ln:Int)=qY total t.ln):=by show _=_;unfold lvs;omega
    by_cases q:t.k=2
    · have Z:(t.k==2)=true:=by simpa using q
      have ab:qY total t.ln≤281474976710656:=by
        unfold TreeV.err at h;rw[if_neg (by omega)]at h;by_cases J:281474976710656<qY total t.ln
        · rw[if_pos ⟨q,J⟩]at h;cases h
        · omega
      clear q h G U hn;unfold TreeV.val;go_enter Tryz.func51,Tryz.ntmps51
      go_wp2_with fail
      refine(yt t _).mono ?_;rintro e w1 ⟨rfl,o⟩;obtain⟨J, -⟩:=zi o;rw[X.out];go_wp2_with (go_at_call 86;rw[Y.out];refine(jW total t.ln V D I _).mono ?_;rintro e w2 ⟨rfl,rfl⟩)
      go_ret2
      exact⟨qcS (by rw[O.out]),qH _ o⟩
    · have Z:(t.k==2)=false:=by simpa using q
      clear q h G U hn;unfold TreeV.val;go_enter Tryz.func51,Tryz.ntmps51
      go_wp2_with fail
      refine(yt t _).mono ?_;rintro e w1 ⟨rfl,o⟩;obtain⟨J, -⟩:=zi o;rw[X.out];go_wp2_with (go_at_call 86;rw[Y.out];refine(jW total t.ln V D I _).mono ?_;rintro e w2 ⟨rfl,rfl⟩)
      go_ret2
      exact⟨qcS (by rw[O.out]),qH _ o⟩
end Go.Proofs.YthjoojnlnlmljaaGreat
namespace Go.Proofs.YthjoojnlnlmljaaGreat
open Go.ChangeShapes Go.WideShapes Go.ChangeAt Go.RowKit Go.Joins Go.Maps
open Go.Lib (hid)
def z7 (n:Nat):Value:= .int .u64 n
theorem Z2:(Tryz.prog.info? 44).map (fun i=>(i.zero,i.size,i.bytes))=some (some (.int .u64 0),1,8):=by kernel_rfl
theorem YJ {f p r m fuel:Nat}(o:1≤fuel)(h:f=0∨r=p - 1):qT f p fuel r m=[1]:=by
  obtain⟨k,rfl⟩: ∃k,fuel=k+1:=⟨fuel - 1,by omega⟩;simp[qT,h]
theorem Jo {f p r m fuel:Nat}(q:1≤fuel)(h: ¬(f=0∨r=p - 1))(o:qY m f=1):qT f p fuel r m=[1]:=by
  obtain⟨k,rfl⟩: ∃k,fuel=k+1:=⟨fuel - 1,by omega⟩;simp only[qT,h,if_false,o];simp
theorem jL {f p r m fuel:Nat}(h: ¬(f=0∨r=p - 1))(o:qY m f≠1):qT f p (fuel+1) r m=qY m f::qT f p fuel (r+1) (qY m f):=by
  simp only[qT,h,if_false,o]
def qi5 (t:TreeV)(total:Nat)(w0:World)(n v i:Value)(wr:World):Prop:=
  ∃(r m fuel:Nat) (pre:List Nat),n= .int .u64 m∧i= .int .i64 r∧1≤r∧r+1≤t.pn∧t.pn≤fuel+r∧(m:Int)≤18446744073709551615∧pre.length=r∧
    Qt t.fn t.pn (lvs total t.ln)=pre++qT t.fn t.pn fuel r m∧wr.ownsRow w0.heap.size 44 1 v pre.length (pre.map z7)∧Below w0.heap.size w0 wr
theorem qdO (t:TreeV)(D:0≤t.l∧t.l≤4294967295)(total:Nat)(q:(total:Int)≤18446744073709551615)(h:t.err total≠0)(w:World):
    Calls Tryz.prog 87 #[t.val,.int .u64 total] w fun e w'=>e= .returned (.tuple #[.slice none 0 0,.int .i64 (t.err total)])∧Below w.heap.size w w':=by
  have G:(t.err total != 0)=true:=by rw[bne_iff_ne];exact h
  unfold TreeV.val;go_enter Tryz.func87,Tryz.ntmps87
  have H:=hid h;clear h;go_wp2_with fail
  refine(jN t D total q H.out _).mono ?_;rintro e I ⟨rfl,o⟩;go_wp2
  go_ret2
  exact⟨rfl,qH _ o⟩
theorem qbd (t:TreeV)(hl:0≤t.l∧t.l≤4294967295)(total:Nat)(ht:(total:Int)≤18446744073709551615)(h:t.err total=0)(w:World):
    Calls Tryz.prog 87 #[t.val,.int .u64 total] w fun e w'=> ∃v,e= .returned (.tuple #[v,.int .i64 0])∧
      w'.ownsRow w.heap.size 44 1 v (Qt t.fn t.pn (lvs total t.ln)).length ((Qt t.fn t.pn (lvs total t.ln)).map z7)∧Below w.heap.size w w':=by
  obtain⟨i0,hi,ac,ah,ad⟩:=info_parts Z2;obtain⟨ar,aF, -,h0⟩:=QF hl h;have hv:=qq h0;obtain⟨-, -, -, -, -,hf,aH,aG, -, -, -, -⟩:=hv;have ap:=qfm total t.ln ar ht;have an:t.p=(t.pn:Int):=by unfold TreeV.pn;omega
  have aj:t.f=(t.fn:Int):=by unfold TreeV.fn;omega
  have H:=hid h;have HP:=hid an;have HF:=hid aj;have aw:2≤t.pn:=by omega
  have aC:t.pn≤255:=by omega
  have aE:t.fn≤255:=by omega
  clear h h0 an aj;unfold TreeV.val;go_enter Tryz.func87,Tryz.ntmps87
  go_wp2_with fail
  refine(Zi t hl total ht H.out _).mono ?_;rintro e D ⟨rfl,V⟩;go_wp2
  have al:D.cell? ⟨w.heap.size,2,none⟩=some (.int .i64 t.fn):=by rw[←HF.out];exact(V.cell (p:=⟨w.heap.size,2,none⟩) (by simp)).trans (by simp[go_sem])
  have ak:D.cell? ⟨w.heap.size,3,none⟩=some (.int .i64 t.pn):=by rw[←HP.out];exact(V.cell (p:=⟨w.heap.size,3,none⟩) (by simp)).trans (by simp[go_sem])
  have I:w.heap.size<D.heap.size:=by have:=V.size;simp at this;omega
  go_loopw [6,8,9] (fun n v i wr=>qi5 t total D n v i wr) (fun _ _ i _=>t.pn - (intOf i).toNat)
  case atStart=>
    refine⟨1,lvs total t.ln,t.pn,[lvs total t.ln],rfl,rfl,Nat.le_refl _,by omega,by omega,ap,rfl,rfl,?_,?_⟩
    · exact World.ownsRow_lit D #[.int .u64 (lvs total t.ln)] 1 Nl (by unfold maxLen;omega) rfl
    · exact Below.alloc Br Nl _
  case round=>
    obtain⟨r,m,fuel,Z,rfl,rfl,ay,av,aA,hm,ao,am,G,U⟩:=hrel;have aB:wr.cell? ⟨w.heap.size,2,none⟩=some (.int .i64 t.fn):=(U.cell (p:=⟨w.heap.size,2,none⟩) I).trans al;have ax:wr.cell? ⟨w.heap.size,3,none⟩=some (.int .i64 t.pn):=(U.cell (p:=⟨w.heap.size,3,none⟩) I).trans ak;have ae:D.heap.size≤wr.heap.size:=U.size;have af:=hid am;have aq:=hid ao;have au:Z.length≤254:=by omega
    have ab:1≤fuel:=by omega
    clear am al ak ao;by_cases X:t.fn=0
    · have e1:((t.fn:Int)==0)=true:=by rw[beq_iff_eq];omega
      have HS:=hid (YJ (m:=m) ab (.inl X:t.fn=0∨r=t.pn - 1));clear X;go_wp2_with (at_builtin;refine wpList_append_own _ rfl _ _ 105 rfl D.heap.size 44 i0 (.int .u64 0) 1 8 Tryz.underlying105 hi ac ah ad rfl (by decide) _ _ _ rfl (G.alloc _) ⟨wr.heap.size,0,none⟩ 1 1 [.int .u64 1] rfl rfl (cell_one_new _ _ _) (by simp[Value.oneCell']) (by unfold maxLen;omega) (by omega) (by simp;omega) ?_;intro v' Y o q _)
      go_ret2
      have O:Below D.heap.size D Y:=(U.alloc ae _).grown q (by simp;omega) (fun k e=>(G.lt k e).1);refine⟨v',rfl,?_,((qH _ V).trans (O.mono (Nat.le_of_lt I)))⟩;have J:Qt t.fn t.pn (lvs total t.ln)=Z++[1]:=by rw[af.out,HS.out]
      rw[J];have:=ownsRow_le o (Nat.le_of_lt I)
      simpa [z7] using this
    have e1:((t.fn:Int)==0)=false:=by rw[beq_eq_false_iff_ne];omega
    by_cases aa:r=t.pn - 1
    · have e2:((r:Int)==(t.pn:Int) - 1)=true:=by rw[beq_iff_eq];omega
      have HS:=hid (YJ (m:=m) ab (.inr aa:t.fn=0∨r=t.pn - 1));clear aa X;go_wp2_with (at_builtin;refine wpList_append_own _ rfl _ _ 105 rfl D.heap.size 44 i0 (.int .u64 0) 1 8 Tryz.underlying105 hi ac ah ad rfl (by decide) _ _ _ rfl (G.alloc _) ⟨wr.heap.size,0,none⟩ 1 1 [.int .u64 1] rfl rfl (cell_one_new _ _ _) (by simp[Value.oneCell']) (by unfold maxLen;omega) (by omega) (by simp;omega) ?_;intro v' Y o q _)
      go_ret2
      have O:Below D.heap.size D Y:=(U.alloc ae _).grown q (by simp;omega) (fun k e=>(G.lt k e).1);refine⟨v',rfl,?_,((qH _ V).trans (O.mono (Nat.le_of_lt I)))⟩;have J:Qt t.fn t.pn (lvs total t.ln)=Z++[1]:=by rw[af.out,HS.out]
      rw[J];have:=ownsRow_le o (Nat.le_of_lt I)
      simpa [z7] using this
    have e2:((r:Int)==(t.pn:Int) - 1)=false:=by rw[beq_eq_false_iff_ne];omega
    have ag: ¬(t.fn=0∨r=t.pn - 1):=fun h=>h.elim X aa
    have aD:=YM (n:=m) (show 1≤t.fn by omega);by_cases h1:qY m t.fn=1
    · have e3:((qY m t.fn:Int)==1)=true:=by rw[beq_iff_eq];omega
      have HS:=hid (Jo ab ag h1);have H1:=hid h1;have ai:1≤t.fn:=by omega
      clear aa X ag h1;go_wp2_with (first|(at_builtin;refine wpList_append_own _ rfl _ _ 105 rfl D.heap.size 44 i0 (.int .u64 0) 1 8 Tryz.underlying105 hi ac ah ad rfl (by decide) _ _ _ rfl (G.alloc _) ⟨wr.heap.size,0,none⟩ 1 1 [.int .u64 (qY m t.fn:Nat)] rfl rfl (cell_one_new _ _ _) (by simp[Value.oneCell']) (by unfold maxLen;omega) (by omega) (by simp;omega) ?_;intro v' Y o q _)|(go_at_call 86;refine(jW m t.fn hm ai (by omega) _).mono ?_;rintro e Y ⟨rfl,rfl⟩))
      go_ret2
      have O:Below D.heap.size D Y:=(U.alloc ae _).grown q (by simp;omega) (fun k e=>(G.lt k e).1);refine⟨v',rfl,?_,((qH _ V).trans (O.mono (Nat.le_of_lt I)))⟩;have J:Qt t.fn t.pn (lvs total t.ln)=Z++[qY m t.fn]:=by rw[af.out,HS.out,H1.out]
      rw[J];have:=ownsRow_le o (Nat.le_of_lt I)
      simpa [z7] using this
    · have e3:((qY m t.fn:Int)==1)=false:=by rw[beq_eq_false_iff_ne];omega
      obtain⟨fu,rfl⟩: ∃fu,fuel=fu+1:=⟨fuel - 1,by omega⟩;have HS:=hid (jL (fuel:=fu) ag h1);have ai:1≤t.fn:=by omega
      have az:r+2≤t.pn:=by omega
      clear aa X ag h1;go_wp2_with (first|(at_builtin;refine wpList_append_own _ rfl _ _ 105 rfl D.heap.size 44 i0 (.int .u64 0) 1 8 Tryz.underlying105 hi ac ah ad rfl (by decide) _ _ _ rfl (G.alloc _) ⟨wr.heap.size,0,none⟩ 1 1 [.int .u64 (qY m t.fn:Nat)] rfl rfl (cell_one_new _ _ _) (by simp[Value.oneCell']) (by unfold maxLen;omega) (by omega) (by simp;omega) ?_;intro v' Y o q _)|(go_at_call 86;refine(jW m t.fn hm ai (by omega) _).mono ?_;rintro e Y ⟨rfl,rfl⟩))
      go_roundw
      case rel=>
        have O:Below D.heap.size D Y:=(U.alloc ae _).grown q (by simp;omega) (fun k e=>(G.lt k e).1);refine⟨r+1,qY m t.fn,fu,Z++[qY m t.fn],rfl,by simp,by omega,by omega,by omega,by omega,by simp[aq.out],?_,?_,O⟩
        · rw[af.out,HS.out];simp
        · simpa [z7] using o
      case measure=>simp[intOf];omega
end Go.Proofs.YthjoojnlnlmljaaGreat
