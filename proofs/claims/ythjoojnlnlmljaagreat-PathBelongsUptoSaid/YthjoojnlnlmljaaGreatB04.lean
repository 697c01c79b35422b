/- The walks of the reference's Valid; Valid on both sides, of every tree. No condition. -/
import Derived.Test.YthjoojnlnlmljaaGreatP00
import Derived.Test.YthjoojnlnlmljaaGreatB03
import Derived.OpenShut
import Derived.Deep.Fields
import Derived.Lib.SmallJoins
import Derived.Maps.AppendAt
set_option linter.all false
set_option maxRecDepth 100000
set_option maxHeartbeats 8000000
namespace Go.Proofs.YthjoojnlnlmljaaGreat
open Go.ChangeShapes Go.WideShapes Go.ChangeAt Go.RowKit
open Go.Lib (hid)
theorem qfM (w:World):Calls Tryz.prog 96 #[.int .i64 1] w fun e w'=>e= .returned (.tuple #[.int .i64 64,.int .i64 16])∧w=w':=by
  go_enter Tryz.func96,Tryz.ntmps96
  go_wp2
  go_ret2
  exact⟨rfl,rfl⟩
theorem qfL (w:World):Calls Tryz.prog 96 #[.int .i64 2] w fun e w'=>e= .returned (.tuple #[.int .i64 32,.int .i64 8])∧w=w':=by
  go_enter Tryz.func96,Tryz.ntmps96
  go_wp2
  go_ret2
  exact⟨rfl,rfl⟩
theorem qeu (k:Int)(o:k≠1)(q:k≠2)(w:World):Calls Tryz.prog 96 #[.int .i64 k] w fun e w'=>e= .returned (.tuple #[.int .i64 0,.int .i64 0])∧w=w':=by
  have D:(k==1)=false:=by simpa using o
  have r:(k==2)=false:=by simpa using q
  go_enter Tryz.func96,Tryz.ntmps96
  go_wp2
  go_ret2
  exact⟨rfl,rfl⟩
theorem qer (t:TreeV)(o:t.k≠1)(q:t.k≠2)(w:World):Calls Tryz.prog 58 #[t.val] w fun e w'=>e= .returned (.int .i64 1)∧Below w.heap.size w w':=by
  unfold TreeV.val;go_enter Tryz.func58,Tryz.ntmps58
  go_wp2_with (go_at_call 96;refine(qeu t.k o q _).mono ?_;rintro e w' ⟨rfl,rfl⟩)
  go_ret
  exact⟨rfl,by repeat(first|exact Below.refl _ _|(refine Below.alloc ?_ (by simp) _))⟩
theorem qfI (t:TreeV)(r:t.k=1)(w:World):Calls Tryz.prog 58 #[t.val] w fun e w'=>e= .returned (.int .i64 t.validE)∧Below w.heap.size w w':=by
  obtain⟨k,d,f,p,l,i,D,U,O,V,X,S,G,J,I⟩:=t;obtain rfl:k=1:=r;have q:Zb 1=64:=rfl;have o:Jf 1=16:=rfl;simp only[TreeV.val];go_enter Tryz.func58,Tryz.ntmps58
  go_wp2_with (go_at_call 96;refine(qfM _).mono ?_;rintro e w' ⟨rfl,rfl⟩)
  all_goals go_ret
  all_goals refine⟨ZK ?_,by repeat(first|exact Below.refl _ _|(refine Below.alloc ?_ (by simp) _))⟩
  all_goals try simp only[beq_iff_eq,beq_eq_false_iff_ne,bne_iff_ne,bne_eq_false_iff_eq]at*
  all_goals simp only[TreeV.validE,q,o]
  all_goals(repeat' split)<;>omega
theorem qfH (t:TreeV)(r:t.k=2)(w:World):Calls Tryz.prog 58 #[t.val] w fun e w'=>e= .returned (.int .i64 t.validE)∧Below w.heap.size w w':=by
  obtain⟨k,d,f,p,l,i,D,U,O,V,X,S,G,J,I⟩:=t;obtain rfl:k=2:=r;have q:Zb 2=32:=rfl;have o:Jf 2=8:=rfl;simp only[TreeV.val];go_enter Tryz.func58,Tryz.ntmps58
  go_wp2_with (go_at_call 96;refine(qfL _).mono ?_;rintro e w' ⟨rfl,rfl⟩)
  all_goals go_ret
  all_goals refine⟨ZK ?_,by repeat(first|exact Below.refl _ _|(refine Below.alloc ?_ (by simp) _))⟩
  all_goals try simp only[beq_iff_eq,beq_eq_false_iff_ne,bne_iff_ne,bne_eq_false_iff_eq]at*
  all_goals simp only[TreeV.validE,q,o]
  all_goals(repeat' split)<;>omega
theorem YG (t:TreeV)(w:World):Calls Tryz.prog 56 #[t.val] w fun e w'=>e= .returned (.int .i64 t.validE)∧Below w.heap.size w w':=by
  by_cases o:t.k=1
  · exact qje t o w
  by_cases q:t.k=2
  · exact qjd t q w
  have e:t.validE=1:=by simp[TreeV.validE,o,q]
  rw[e];exact qhU t o q w
theorem yK (t:TreeV)(w:World):Calls Tryz.prog 58 #[t.val] w fun e w'=>e= .returned (.int .i64 t.validE)∧Below w.heap.size w w':=by
  by_cases o:t.k=1
  · exact qfI t o w
  by_cases q:t.k=2
  · exact qfH t q w
  have e:t.validE=1:=by simp[TreeV.validE,o,q]
  rw[e];exact qer t o q w
end Go.Proofs.YthjoojnlnlmljaaGreat
namespace Go.Proofs.YthjoojnlnlmljaaGreat
open Go.ChangeShapes Go.WideShapes Go.ChangeAt Go.RowKit Go.Joins Go.Deep
open Go.Lib (hid)
section
variable {H:Type} {enc:TypeId×Value→H} {P:Program} {w:World} {base:Nat} {spare:Nat→Bool} {held:Bool}
end
theorem qjT {α:Type}{l:List α}(h:l.length=9): ∃a b c d e f g i j,l=[a,b,c,d,e,f,g,i,j]:=by
  match l,h with
  | [a,b,c,d,e,f,g,i,j],_=>exact⟨a,b,c,d,e,f,g,i,j,rfl⟩
theorem qgt:Tryz.prog.cellsOf 22=1:=by kernel_rfl
theorem jZ:Tryz.prog.cellsOf 3=1:=by kernel_rfl
theorem qhL:Tryz.prog.cellsOf 23=1:=by kernel_rfl
theorem jy:Tryz.prog.cellsOf 24=1:=by kernel_rfl
theorem qiU:Tryz.prog.cellsOf 5=1:=by kernel_rfl
theorem qgp:Tryz.prog.cellsOf 26=9:=by kernel_rfl
end Go.Proofs.YthjoojnlnlmljaaGreat
namespace Go.Proofs.YthjoojnlnlmljaaGreat
open Go.ChangeShapes Go.WideShapes Go.ChangeAt Go.RowKit
open Go.Lib (hid)
def nth (l:List Nat)(k:Nat):Nat:=l.getD k 0
theorem zd (a:Nat)(l:List Nat)(k:Nat):nth (a::l) (k+1)=nth l k:=rfl
def qP (n d:Nat):Nat:=if n%d=0 then n/d else n/d+1
theorem Yq {n d:Nat}(G:1≤d):qP n d≤n:=by
  unfold qP;split
  · exact Nat.div_le_self _ _
  · rename_i h
    have D:2≤d:=by
      rcases Nat.lt_or_ge d 2 with o|o
      · have:d=1:=by omega
        subst this;simp[Nat.mod_one]at h
      · exact o
    have r:0<n:=by
      rcases Nat.eq_zero_or_pos n with o|o
      · subst o;simp at h
      · exact o
    have q:=Nat.div_lt_self r D;exact q
theorem ZD {n d:Nat}(q:1≤n):1≤qP n d:=by
  unfold qP;split
  · rename_i h
    have:=Nat.div_add_mod n d
    rw[h]at this;rcases Nat.eq_zero_or_pos (n/d)with o|o
    · rw[o]at this;simp at this;omega
    · exact o
  · exact Nat.le_add_left _ _
def lvs (total l:Nat):Nat:=max 1 (qP total l)
def Qf (f p:Nat):Nat→Nat→Nat→List Nat
  | 0,_,_=>[]
  | fuel+1,row,n=>(if f=0∨row=p - 1 then 1 else qP n f)::(if(if f=0∨row=p - 1 then 1 else qP n f)=1 then [] else Qf f p fuel (row+1) (if f=0∨row=p - 1 then 1 else qP n f))
def QR (f p n:Nat):List Nat:=n::Qf f p p 1 n
def qK:Nat→List Nat→List (Nat×Nat)
  | _,[]=>[]
  | r,n::l=>(r,n)::qK (r+1) l
theorem yG: ∀(r:Nat) (l:List Nat),(qK r l).length=l.length
  | _,[]=>rfl
  | r,n::l=>by simp[qK,yG (r+1) l]
def TreeV.ln (t:TreeV):Nat:=t.l.toNat
def TreeV.fn (t:TreeV):Nat:=t.f.toNat
def TreeV.pn (t:TreeV):Nat:=t.p.toNat
def TreeV.err (t:TreeV)(total:Nat):Int:=if t.validE≠0 then t.validE else if t.k=2∧281474976710656<qP total t.ln then 2 else 0
theorem qn {t:TreeV}(h:t.validE=0):(t.k=1∨t.k=2)∧1≤t.d∧t.d≤Zb t.k∧1≤t.i∧t.i≤Zb t.k∧(t.f=0∨2≤t.f∧t.f≤255)∧2≤t.p∧t.p≤255∧t.l≠0∧
    (t.kl:Int)≤Zb t.k∧((t.sl:Int)=0∨(t.sl:Int)=Jf t.k)∧((t.pl:Int)=0∨(t.pl:Int)=Jf t.k):=by
  unfold TreeV.validE at h;split at h
  · cases h
  · split at h
    · cases h
    · split at h
      · cases h
      · split at h
        · cases h
        · split at h
          · cases h
          · refine⟨by omega,by omega,by omega,by omega,by omega,by omega,by omega,by omega,by omega,by omega,?_,?_⟩<;>omega
theorem Q5 {t:TreeV}{total:Nat}(h:t.err total=0):t.validE=0:=by
  unfold TreeV.err at h;split at h
  · omega
  · omega
theorem qfc (n d:Nat)(hn:(n:Int)≤18446744073709551615)(J:1≤d)(V:(d:Int)≤18446744073709551615)(w:World):
    Calls Tryz.prog 145 #[.int .u64 n,.int .u64 d] w fun e w'=>e= .returned (.int .u64 (qP n d))∧w=w':=by
  have Z:=Yq (n:=n) J;have U:(1:Int)≤d:=by omega
  have Y:((d:Int)==0)=false:=by rw[beq_eq_false_iff_ne];omega
  have o:((n/d:Nat):Int)=(n:Int)/(d:Int):=Int.natCast_ediv n d;have r:((n%d:Nat):Int)=(n:Int)%(d:Int):=Int.natCast_emod n d;have X:=Nat.div_le_self n d;by_cases h:n%d=0
  · have G:((n:Int)%(d:Int) != 0)=false:=by
      rw[bne_eq_false_iff_eq,←r,h];rfl
    have q:(qP n d:Int)=(n:Int)/(d:Int):=by simp[qP,h]
    have I:(n:Int)/(d:Int)≤18446744073709551615:=by rw[←o];omega
    have S:0≤(n:Int)/(d:Int):=by rw[←o];exact Int.natCast_nonneg _
    have D:=hid q;clear q o r;go_enter Tryz.func145,Tryz.ntmps145
    go_wp2
    go_ret
    exact⟨by rw[D.out];rfl,rfl⟩
  · have G:((n:Int)%(d:Int) != 0)=true:=by
      rw[bne_iff_ne,←r];intro O;exact h (by exact_mod_cast O)
    have q:(qP n d:Int)=(n:Int)/(d:Int)+1:=by simp[qP,h]
    have I:(n:Int)/(d:Int)+1≤18446744073709551615:=by rw[←o];(have e5:qP n d=n/d+1:=by simp[qP,h]);omega
    have S:0≤(n:Int)/(d:Int):=by rw[←o];exact Int.natCast_nonneg _
    have D:=hid q;clear q o r;go_enter Tryz.func145,Tryz.ntmps145
    go_wp2
    go_ret
    exact⟨by rw[D.out];rfl,rfl⟩
theorem Jt (n d:Nat)(hn:(n:Int)≤18446744073709551615)(J:1≤d)(V:(d:Int)≤18446744073709551615)(w:World):
    Calls Tryz.prog 86 #[.int .u64 n,.int .u64 d] w fun e w'=>e= .returned (.int .u64 (qP n d))∧w=w':=by
  have Z:=Yq (n:=n) J;have U:(1:Int)≤d:=by omega
  have Y:((d:Int)==0)=false:=by rw[beq_eq_false_iff_ne];omega
  have o:((n/d:Nat):Int)=(n:Int)/(d:Int):=Int.natCast_ediv n d;have r:((n%d:Nat):Int)=(n:Int)%(d:Int):=Int.natCast_emod n d;have X:=Nat.div_le_self n d;by_cases h:n%d=0
  · have G:((n:Int)%(d:Int)==0)=true:=by
      rw[beq_iff_eq,←r,h];rfl
    have q:(qP n d:Int)=(n:Int)/(d:Int):=by simp[qP,h]
    have I:(n:Int)/(d:Int)≤18446744073709551615:=by rw[←o];omega
    have S:0≤(n:Int)/(d:Int):=by rw[←o];exact Int.natCast_nonneg _
    have D:=hid q;clear q o r;go_enter Tryz.func86,Tryz.ntmps86
    go_wp2
    go_ret
    exact⟨by rw[D.out];rfl,rfl⟩
  · have G:((n:Int)%(d:Int)==0)=false:=by
      rw[beq_eq_false_iff_ne,←r];intro O;exact h (by exact_mod_cast O)
    have q:(qP n d:Int)=(n:Int)/(d:Int)+1:=by simp[qP,h]
    have I:(n:Int)/(d:Int)+1≤18446744073709551615:=by rw[←o];(have e5:qP n d=n/d+1:=by simp[qP,h]);omega
    have S:0≤(n:Int)/(d:Int):=by rw[←o];exact Int.natCast_nonneg _
    have D:=hid q;clear q o r;go_enter Tryz.func86,Tryz.ntmps86
    go_wp2
    go_ret
    exact⟨by rw[D.out];rfl,rfl⟩
theorem yS {W w1:World}(q:Below W.heap.size W w1):(∀b o,b<W.heap.size→w1.cell? ⟨b,o,none⟩=W.cell? ⟨b,o,none⟩)∧(∀b o,b<W.heap.size→w1.frozen? ⟨b,o,none⟩=W.frozen? ⟨b,o,none⟩):=
  ⟨fun b o h=>q.cell (p:=⟨b,o,none⟩) h,fun b o h=>q.frozen (p:=⟨b,o,none⟩) h⟩
theorem qby (t:TreeV)(Z:0≤t.l∧t.l≤4294967295)(total:Nat)(X:(total:Int)≤18446744073709551615)(w:World):
    Calls Tryz.prog 115 #[t.val,.int .u64 total] w fun e w'=>e= .returned (.int .i64 (t.err total))∧Below w.heap.size w w':=by
  by_cases q:t.validE=0
  · have Y:=qn q
    have J:=hid q;obtain⟨-, -, -, -, -, -, -, -,G, -, -, -⟩:=Y;have I:1≤t.ln:=by unfold TreeV.ln;omega
    have O:(t.ln:Int)≤18446744073709551615:=by unfold TreeV.ln;omega
    have S:=hid (show t.l=(t.ln:Int) by unfold TreeV.ln;omega);by_cases r:t.k=2
    · have V:(t.k==2)=true:=by simpa using r
      have D:Hid (t.err total=if 281474976710656<qP total t.ln then 2 else 0):=by show _=_;simp[TreeV.err,q,r]
      clear r G q;unfold TreeV.val;go_enter Tryz.func115,Tryz.ntmps115
      go_wp2_with fail
      refine(YG t _).mono ?_;rintro e w1 ⟨rfl,o⟩;obtain⟨U, -⟩:=yS o;rw[J.out];go_wp2_with (go_at_call 145;rw[S.out];refine(qfc total t.ln X I O _).mono ?_;rintro e w2 ⟨rfl,rfl⟩)
      all_goals go_ret
      all_goals refine⟨ZK (by rw[D.out];first|rw[if_pos (by omega)]|rw[if_neg (by omega)]),?_⟩
      all_goals exact(Below.alloc Br Nl _).trans (o.mono (by simp))
    · have V:(t.k==2)=false:=by simpa using r
      have D:Hid (t.err total=0):=by show _=_;simp[TreeV.err,q,r]
      clear r G q;unfold TreeV.val;go_enter Tryz.func115,Tryz.ntmps115
      go_wp2_with fail
      refine(YG t _).mono ?_;rintro e w1 ⟨rfl,o⟩;obtain⟨U, -⟩:=yS o;rw[J.out];go_wp2
      go_ret
      exact⟨ZK (by rw[D.out]),(Below.alloc Br Nl _).trans (o.mono (by simp))⟩
  · have e1:(t.validE != 0)=true:=by rw[bne_iff_ne];exact q
    have D:Hid (t.err total=t.validE):=by show _=_;simp[TreeV.err,q]
    clear q;unfold TreeV.val;go_enter Tryz.func115,Tryz.ntmps115
    go_wp2_with fail
    refine(YG t _).mono ?_;rintro e w1 ⟨rfl,o⟩;go_wp2
    go_ret
    exact⟨ZK (by rw[D.out]),(Below.alloc Br Nl _).trans (o.mono (by simp))⟩
theorem qt {w w1:World}(o:Obj)(q:Below (w.alloc o).heap.size (w.alloc o) w1):Below w.heap.size w w1:=
  (Below.alloc Br Nl o).trans (q.mono (by simp))
theorem qdy {k:IntKind}{a b:Int}{v:Value}(h:a=b):Ending.returned (.tuple #[.int k a,v])= .returned (.tuple #[.int k b,v]):=by rw[h]
theorem Qu {t:TreeV}{total:Nat}(q:0≤t.l∧t.l≤4294967295)(h:t.err total=0):1≤t.ln∧(t.ln:Int)≤4294967295∧t.l=(t.ln:Int)∧t.validE=0:=by
  have o:=Q5 h;have r:=qn o;unfold TreeV.ln;omega
theorem qf7 (total l:Nat)(o:1≤l)(q:(total:Int)≤18446744073709551615):(lvs total l:Int)≤18446744073709551615:=by
  have:=Yq (n:=total) o
  unfold lvs;omega
theorem Jj (t:TreeV)(hl:0≤t.l∧t.l≤4294967295)(total:Nat)(X:(total:Int)≤18446744073709551615)(h:t.err total≠0)(w:World):
    Calls Tryz.prog 51 #[t.val,.int .u64 total] w fun e w'=>e= .returned (.tuple #[.int .u64 0,.int .i64 (t.err total)])∧Below w.heap.size w w':=by
  by_cases o:t.validE=0
  · have Y:=qn o
    have V:=hid o;obtain⟨-, -, -, -, -, -, -, -,G, -, -, -⟩:=Y;have I:1≤t.ln:=by unfold TreeV.ln;omega
    have S:(t.ln:Int)≤18446744073709551615:=by unfold TreeV.ln;omega
    have U:=hid (show t.l=(t.ln:Int) by unfold TreeV.ln;omega);have O:t.k=2∧281474976710656<qP total t.ln:=by
      unfold TreeV.err at h;rw[if_neg (by omega)]at h;by_cases r:t.k=2∧281474976710656<qP total t.ln
      · exact r
      · rw[if_neg r]at h;exact absurd rfl h
    have D:Hid (t.err total=2):=by show _=_;simp[TreeV.err,o,O]
    obtain⟨J,Z⟩:=O;have ek:(t.k==2)=true:=by simpa using J
    have en:((qP total t.ln:Int)==0)=false:=by rw[beq_eq_false_iff_ne];omega
    clear J G o h;unfold TreeV.val;go_enter Tryz.func51,Tryz.ntmps51
    go_wp2_with fail
    refine(yK t _).mono ?_;rintro e w1 ⟨rfl,q⟩;obtain⟨r, -⟩:=yS q;rw[V.out];go_wp2_with (go_at_call 86;rw[U.out];refine(Jt total t.ln X I S _).mono ?_;rintro e w2 ⟨rfl,rfl⟩)
    go_ret2
    exact⟨by rw[D.out];rfl,qt _ q⟩
  · have e1:(t.validE != 0)=true:=by rw[bne_iff_ne];exact o
    have D:Hid (t.err total=t.validE):=by show _=_;simp[TreeV.err,o]
    clear o h;unfold TreeV.val;go_enter Tryz.func51,Tryz.ntmps51
    go_wp2_with fail
    refine(yK t _).mono ?_;rintro e w1 ⟨rfl,q⟩;go_wp2
    go_ret2
    exact⟨by rw[D.out];rfl,qt _ q⟩
theorem ZM (t:TreeV)(hl:0≤t.l∧t.l≤4294967295)(total:Nat)(V:(total:Int)≤18446744073709551615)(h:t.err total=0)(w:World):
    Calls Tryz.prog 51 #[t.val,.int .u64 total] w fun e w'=>e= .returned (.tuple #[.int .u64 (lvs total t.ln),.int .i64 0])∧Below w.heap.size w w':=by
  obtain⟨r,ac,D,S⟩:=Qu hl h;have O:=hid D;have U:=hid S;have G:(t.ln:Int)≤18446744073709551615:=by omega
  have ab:=Yq (n:=total) r;by_cases X:qP total t.ln=0
  · have en:((qP total t.ln:Int)==0)=true:=by rw[beq_iff_eq];omega
    have I:Hid ((lvs total t.ln:Int)=1):=by show _=_;unfold lvs;omega
    clear h D S X;by_cases q:t.k=2
    · have Y:(t.k==2)=true:=by simpa using q
      clear q;unfold TreeV.val;go_enter Tryz.func51,Tryz.ntmps51
      go_wp2_with fail
      refine(yK t _).mono ?_;rintro e w1 ⟨rfl,o⟩;obtain⟨J, -⟩:=yS o;rw[U.out];go_wp2_with (go_at_call 86;rw[O.out];refine(Jt total t.ln V r G _).mono ?_;rintro e Z ⟨rfl,rfl⟩)
      go_ret2
      exact⟨qdy (by rw[I.out]),qt _ o⟩
    · have Y:(t.k==2)=false:=by simpa using q
      clear q;unfold TreeV.val;go_enter Tryz.func51,Tryz.ntmps51
      go_wp2_with fail
      refine(yK t _).mono ?_;rintro e w1 ⟨rfl,o⟩;obtain⟨J, -⟩:=yS o;rw[U.out];go_wp2_with (go_at_call 86;rw[O.out];refine(Jt total t.ln V r G _).mono ?_;rintro e Z ⟨rfl,rfl⟩)
      go_ret2
      exact⟨qdy (by rw[I.out]),qt _ o⟩
  · have en:((qP total t.ln:Int)==0)=false:=by rw[beq_eq_false_iff_ne];omega
    have I:Hid ((lvs total t.ln:Int)=qP total t.ln):=by show _=_;unfold lvs;omega
    by_cases q:t.k=2
    · have Y:(t.k==2)=true:=by simpa using q
      have aa:qP total t.ln≤281474976710656:=by
        unfold TreeV.err at h;rw[if_neg (by omega)]at h;by_cases J:281474976710656<qP total t.ln
        · rw[if_pos ⟨q,J⟩]at h;cases h
        · omega
      clear q h D S X;unfold TreeV.val;go_enter Tryz.func51,Tryz.ntmps51
      go_wp2_with fail
      refine(yK t _).mono ?_;rintro e w1 ⟨rfl,o⟩;obtain⟨J, -⟩:=yS o;rw[U.out];go_wp2_with (go_at_call 86;rw[O.out];refine(Jt total t.ln V r G _).mono ?_;rintro e Z ⟨rfl,rfl⟩)
      go_ret2
      exact⟨qdy (by rw[I.out]),qt _ o⟩
    · have Y:(t.k==2)=false:=by simpa using q
      clear q h D S X;unfold TreeV.val;go_enter Tryz.func51,Tryz.ntmps51
      go_wp2_with fail
      refine(yK t _).mono ?_;rintro e w1 ⟨rfl,o⟩;obtain⟨J, -⟩:=yS o;rw[U.out];go_wp2_with (go_at_call 86;rw[O.out];refine(Jt total t.ln V r G _).mono ?_;rintro e Z ⟨rfl,rfl⟩)
      go_ret2
      exact⟨qdy (by rw[I.out]),qt _ o⟩
end Go.Proofs.YthjoojnlnlmljaaGreat
namespace Go.Proofs.YthjoojnlnlmljaaGreat
open Go.ChangeShapes Go.WideShapes Go.ChangeAt Go.RowKit Go.Joins Go.Maps
open Go.Lib (hid)
def qcE (n:Nat):Value:= .int .u64 n
theorem qbZ:(Tryz.prog.info? 44).map (fun i=>(i.zero,i.size,i.bytes))=some (some (.int .u64 0),1,8):=by kernel_rfl
theorem za {f p r m fuel:Nat}(o:1≤fuel)(h:f=0∨r=p - 1):Qf f p fuel r m=[1]:=by
  obtain⟨k,rfl⟩: ∃k,fuel=k+1:=⟨fuel - 1,by omega⟩;simp[Qf,h]
theorem JL {f p r m fuel:Nat}(q:1≤fuel)(h: ¬(f=0∨r=p - 1))(o:qP m f=1):Qf f p fuel r m=[1]:=by
  obtain⟨k,rfl⟩: ∃k,fuel=k+1:=⟨fuel - 1,by omega⟩;simp only[Qf,h,if_false,o];simp
theorem Jh {f p r m fuel:Nat}(h: ¬(f=0∨r=p - 1))(o:qP m f≠1):Qf f p (fuel+1) r m=qP m f::Qf f p fuel (r+1) (qP m f):=by
  simp only[Qf,h,if_false,o]
def qkc (t:TreeV)(total:Nat)(w0:World)(n v i:Value)(wr:World):Prop:=
  ∃(r m fuel:Nat) (pre:List Nat),n= .int .u64 m∧i= .int .i64 r∧1≤r∧r+1≤t.pn∧t.pn≤fuel+r∧(m:Int)≤18446744073709551615∧pre.length=r∧
    QR t.fn t.pn (lvs total t.ln)=pre++Qf t.fn t.pn fuel r m∧wr.ownsRow w0.heap.size 44 1 v pre.length (pre.map qcE)∧Below w0.heap.size w0 wr
theorem qev (t:TreeV)(r:0≤t.l∧t.l≤4294967295)(total:Nat)(q:(total:Int)≤18446744073709551615)(h:t.err total≠0)(w:World):
    Calls Tryz.prog 87 #[t.val,.int .u64 total] w fun e w'=>e= .returned (.tuple #[.slice none 0 0,.int .i64 (t.err total)])∧Below w.heap.size w w':=by
  have D:(t.err total != 0)=true:=by rw[bne_iff_ne];exact h
  unfold TreeV.val;go_enter Tryz.func87,Tryz.ntmps87
  have H:=hid h;clear h;go_wp2_with fail
  refine(Jj t r total q H.out _).mono ?_;rintro e w1 ⟨rfl,o⟩;go_wp2
  go_ret2
  exact⟨rfl,qt _ o⟩
theorem qbH (t:TreeV)(hl:0≤t.l∧t.l≤4294967295)(total:Nat)(ht:(total:Int)≤18446744073709551615)(h:t.err total=0)(w:World):
    Calls Tryz.prog 87 #[t.val,.int .u64 total] w fun e w'=> ∃v,e= .returned (.tuple #[v,.int .i64 0])∧
      w'.ownsRow w.heap.size 44 1 v (QR t.fn t.pn (lvs total t.ln)).length ((QR t.fn t.pn (lvs total t.ln)).map qcE)∧Below w.heap.size w w':=by
  obtain⟨i0,hi,aa,ac,ab⟩:=info_parts qbZ;obtain⟨an,aE, -,h0⟩:=Qu hl h;have hv:=qn h0;obtain⟨-, -, -, -, -,hf,aB,au, -, -, -, -⟩:=hv;have ap:=qf7 total t.ln an ht;have am:t.p=(t.pn:Int):=by unfold TreeV.pn;omega
  have ak:t.f=(t.fn:Int):=by unfold TreeV.fn;omega
  have H:=hid h;have HP:=hid am;have HF:=hid ak;have ay:2≤t.pn:=by omega
  have aF:t.pn≤255:=by omega
  have av:t.fn≤255:=by omega
  clear h h0 am ak;unfold TreeV.val;go_enter Tryz.func87,Tryz.ntmps87
  go_wp2_with fail
  refine(ZM t hl total ht H.out _).mono ?_;rintro e w1 ⟨rfl,U⟩;go_wp2
  have ah:w1.cell? ⟨w.heap.size,2,none⟩=some (.int .i64 t.fn):=by rw[←HF.out];exact(U.cell (p:=⟨w.heap.size,2,none⟩) (by simp)).trans (by simp[go_sem])
  have al:w1.cell? ⟨w.heap.size,3,none⟩=some (.int .i64 t.pn):=by rw[←HP.out];exact(U.cell (p:=⟨w.heap.size,3,none⟩) (by simp)).trans (by simp[go_sem])
  have G:w.heap.size<w1.heap.size:=by have:=U.size;simp at this;omega
  go_loopw [6,8,9] (fun n v i wr=>qkc t total w1 n v i wr) (fun _ _ i _=>t.pn - (intOf i).toNat)
  case atStart=>
    refine⟨1,lvs total t.ln,t.pn,[lvs total t.ln],rfl,rfl,Nat.le_refl _,by omega,by omega,ap,rfl,rfl,?_,?_⟩
    · exact World.ownsRow_lit w1 #[.int .u64 (lvs total t.ln)] 1 Nl (by unfold maxLen;omega) rfl
    · exact Below.alloc Br Nl _
  case round=>
    obtain⟨r,m,fuel,Y,rfl,rfl,aC,aw,az,hm,aj,ai,D,O⟩:=hrel;have aD:wr.cell? ⟨w.heap.size,2,none⟩=some (.int .i64 t.fn):=(O.cell (p:=⟨w.heap.size,2,none⟩) G).trans ah;have aA:wr.cell? ⟨w.heap.size,3,none⟩=some (.int .i64 t.pn):=(O.cell (p:=⟨w.heap.size,3,none⟩) G).trans al;have ae:w1.heap.size≤wr.heap.size:=O.size;have af:=hid ai;have ao:=hid aj;have aq:Y.length≤254:=by omega
    have Z:1≤fuel:=by omega
    clear ai ah al aj;by_cases S:t.fn=0
    · have e1:((t.fn:Int)==0)=true:=by rw[beq_iff_eq];omega
      have HS:=hid (za (m:=m) Z (.inl S:t.fn=0∨r=t.pn - 1));clear S;go_wp2_with (at_builtin;refine wpList_append_own _ rfl _ _ 105 rfl w1.heap.size 44 i0 (.int .u64 0) 1 8 Tryz.underlying105 hi aa ac ab rfl (by decide) _ _ _ rfl (D.alloc _) ⟨wr.heap.size,0,none⟩ 1 1 [.int .u64 1] rfl rfl (cell_one_new _ _ _) (by simp[Value.oneCell']) (by unfold maxLen;omega) (by omega) (by simp;omega) ?_;intro v' V o q _)
      go_ret2
      have I:Below w1.heap.size w1 V:=(O.alloc ae _).grown q (by simp;omega) (fun k e=>(D.lt k e).1);refine⟨v',rfl,?_,((qt _ U).trans (I.mono (Nat.le_of_lt G)))⟩;have J:QR t.fn t.pn (lvs total t.ln)=Y++[1]:=by rw[af.out,HS.out]
      rw[J];have:=ownsRow_le o (Nat.le_of_lt G)
      simpa [qcE] using this
    have e1:((t.fn:Int)==0)=false:=by rw[beq_eq_false_iff_ne];omega
    by_cases X:r=t.pn - 1
    · have e2:((r:Int)==(t.pn:Int) - 1)=true:=by rw[beq_iff_eq];omega
      have HS:=hid (za (m:=m) Z (.inr X:t.fn=0∨r=t.pn - 1));clear X S;go_wp2_with (at_builtin;refine wpList_append_own _ rfl _ _ 105 rfl w1.heap.size 44 i0 (.int .u64 0) 1 8 Tryz.underlying105 hi aa ac ab rfl (by decide) _ _ _ rfl (D.alloc _) ⟨wr.heap.size,0,none⟩ 1 1 [.int .u64 1] rfl rfl (cell_one_new _ _ _) (by simp[Value.oneCell']) (by unfold maxLen;omega) (by omega) (by simp;omega) ?_;intro v' V o q _)
      go_ret2
      have I:Below w1.heap.size w1 V:=(O.alloc ae _).grown q (by simp;omega) (fun k e=>(D.lt k e).1);refine⟨v',rfl,?_,((qt _ U).trans (I.mono (Nat.le_of_lt G)))⟩;have J:QR t.fn t.pn (lvs total t.ln)=Y++[1]:=by rw[af.out,HS.out]
      rw[J];have:=ownsRow_le o (Nat.le_of_lt G)
      simpa [qcE] using this
    have e2:((r:Int)==(t.pn:Int) - 1)=false:=by rw[beq_eq_false_iff_ne];omega
    have ad: ¬(t.fn=0∨r=t.pn - 1):=fun h=>h.elim S X
    have ar:=Yq (n:=m) (show 1≤t.fn by omega);by_cases h1:qP m t.fn=1
    · have e3:((qP m t.fn:Int)==1)=true:=by rw[beq_iff_eq];omega
      have HS:=hid (JL Z ad h1);have H1:=hid h1;have ag:1≤t.fn:=by omega
      clear X S ad h1;go_wp2_with (first|(at_builtin;refine wpList_append_own _ rfl _ _ 105 rfl w1.heap.size 44 i0 (.int .u64 0) 1 8 Tryz.underlying105 hi aa ac ab rfl (by decide) _ _ _ rfl (D.alloc _) ⟨wr.heap.size,0,none⟩ 1 1 [.int .u64 (qP m t.fn)] rfl rfl (cell_one_new _ _ _) (by simp[Value.oneCell']) (by unfold maxLen;omega) (by omega) (by simp;omega) ?_;intro v' V o q _)|(go_at_call 86;refine(Jt m t.fn hm ag (by omega) _).mono ?_;rintro e V ⟨rfl,rfl⟩))
      go_ret2
      have I:Below w1.heap.size w1 V:=(O.alloc ae _).grown q (by simp;omega) (fun k e=>(D.lt k e).1);refine⟨v',rfl,?_,((qt _ U).trans (I.mono (Nat.le_of_lt G)))⟩;have J:QR t.fn t.pn (lvs total t.ln)=Y++[qP m t.fn]:=by rw[af.out,HS.out,H1.out]
      rw[J];have:=ownsRow_le o (Nat.le_of_lt G)
      simpa [qcE] using this
    · have e3:((qP m t.fn:Int)==1)=false:=by rw[beq_eq_false_iff_ne];omega
      obtain⟨fu,rfl⟩: ∃fu,fuel=fu+1:=⟨fuel - 1,by omega⟩;have HS:=hid (Jh (fuel:=fu) ad h1);have ag:1≤t.fn:=by omega
      have ax:r+2≤t.pn:=by omega
      clear X S ad h1;go_wp2_with (first|(at_builtin;refine wpList_append_own _ rfl _ _ 105 rfl w1.heap.size 44 i0 (.int .u64 0) 1 8 Tryz.underlying105 hi aa ac ab rfl (by decide) _ _ _ rfl (D.alloc _) ⟨wr.heap.size,0,none⟩ 1 1 [.int .u64 (qP m t.fn)] rfl rfl (cell_one_new _ _ _) (by simp[Value.oneCell']) (by unfold maxLen;omega) (by omega) (by simp;omega) ?_;intro v' V o q _)|(go_at_call 86;refine(Jt m t.fn hm ag (by omega) _).mono ?_;rintro e V ⟨rfl,rfl⟩))
      go_roundw
      case rel=>
        have I:Below w1.heap.size w1 V:=(O.alloc ae _).grown q (by simp;omega) (fun k e=>(D.lt k e).1);refine⟨r+1,qP m t.fn,fu,Y++[qP m t.fn],rfl,by simp,by omega,by omega,by omega,by omega,by simp[ao.out],?_,?_,I⟩
        · rw[af.out,HS.out];simp
        · simpa [qcE] using o
      case measure=>simp[intOf];omega
end Go.Proofs.YthjoojnlnlmljaaGreat
