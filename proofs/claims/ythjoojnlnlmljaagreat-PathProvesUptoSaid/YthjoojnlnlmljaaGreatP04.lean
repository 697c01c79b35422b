/- The walks of the reference's Valid; Valid on both sides, of every tree. No condition. -/
import Derived.Test.YthjoojnlnlmljaaGreatP00
import Derived.Test.YthjoojnlnlmljaaGreatP03
import Derived.OpenShut
import Derived.Deep.Fields
import Derived.Lib.SmallJoins
import Derived.Maps.AppendAt
set_option linter.all false
set_option maxRecDepth 100000
set_option maxHeartbeats 8000000
namespace Go.Proofs.YthjoojnlnlmljaaGreat
open Go.ChangeShapes Go.WideShapes Go.ChangeAt Go.RowKit
open Go.Lib (hid)
theorem qe0 (w:World):Calls Tryz.prog 96 #[.int .i64 1] w fun e w'=>e= .returned (.tuple #[.int .i64 64,.int .i64 16])∧w=w':=by
  go_enter Tryz.func96,Tryz.ntmps96
  go_wp2
  go_ret2
  exact⟨rfl,rfl⟩
theorem qeZ (w:World):Calls Tryz.prog 96 #[.int .i64 2] w fun e w'=>e= .returned (.tuple #[.int .i64 32,.int .i64 8])∧w=w':=by
  go_enter Tryz.func96,Tryz.ntmps96
  go_wp2
  go_ret2
  exact⟨rfl,rfl⟩
theorem qdL (k:Int)(q:k≠1)(o:k≠2)(w:World):Calls Tryz.prog 96 #[.int .i64 k] w fun e w'=>e= .returned (.tuple #[.int .i64 0,.int .i64 0])∧w=w':=by
  have r:(k==1)=false:=by simpa using q
  have D:(k==2)=false:=by simpa using o
  go_enter Tryz.func96,Tryz.ntmps96
  go_wp2
  go_ret2
  exact⟨rfl,rfl⟩
theorem qdI (t:TreeV)(q:t.k≠1)(o:t.k≠2)(w:World):Calls Tryz.prog 58 #[t.val] w fun e w'=>e= .returned (.int .i64 1)∧Below w.heap.size w w':=by
  unfold TreeV.val;go_enter Tryz.func58,Tryz.ntmps58
  go_wp2_with (go_at_call 96;refine(qdL t.k q o _).mono ?_;rintro e w' ⟨rfl,rfl⟩)
  go_ret
  exact⟨rfl,by repeat(first|exact Below.refl _ _|(refine Below.alloc ?_ (by simp) _))⟩
theorem qeW (t:TreeV)(r:t.k=1)(w:World):Calls Tryz.prog 58 #[t.val] w fun e w'=>e= .returned (.int .i64 t.validE)∧Below w.heap.size w w':=by
  obtain⟨k,d,f,p,l,i,J,G,I,U,X,D,Y,V,O⟩:=t;obtain rfl:k=1:=r;have o:zw 1=64:=rfl;have q:jY 1=16:=rfl;simp only[TreeV.val];go_enter Tryz.func58,Tryz.ntmps58
  go_wp2_with (go_at_call 96;refine(qe0 _).mono ?_;rintro e w' ⟨rfl,rfl⟩)
  all_goals go_ret
  all_goals refine⟨Zv ?_,by repeat(first|exact Below.refl _ _|(refine Below.alloc ?_ (by simp) _))⟩
  all_goals try simp only[beq_iff_eq,beq_eq_false_iff_ne,bne_iff_ne,bne_eq_false_iff_eq]at*
  all_goals simp only[TreeV.validE,o,q]
  all_goals(repeat' split)<;>omega
theorem qeV (t:TreeV)(r:t.k=2)(w:World):Calls Tryz.prog 58 #[t.val] w fun e w'=>e= .returned (.int .i64 t.validE)∧Below w.heap.size w w':=by
  obtain⟨k,d,f,p,l,i,J,G,I,U,X,D,Y,V,O⟩:=t;obtain rfl:k=2:=r;have o:zw 2=32:=rfl;have q:jY 2=8:=rfl;simp only[TreeV.val];go_enter Tryz.func58,Tryz.ntmps58
  go_wp2_with (go_at_call 96;refine(qeZ _).mono ?_;rintro e w' ⟨rfl,rfl⟩)
  all_goals go_ret
  all_goals refine⟨Zv ?_,by repeat(first|exact Below.refl _ _|(refine Below.alloc ?_ (by simp) _))⟩
  all_goals try simp only[beq_iff_eq,beq_eq_false_iff_ne,bne_iff_ne,bne_eq_false_iff_eq]at*
  all_goals simp only[TreeV.validE,o,q]
  all_goals(repeat' split)<;>omega
theorem Zc (t:TreeV)(w:World):Calls Tryz.prog 56 #[t.val] w fun e w'=>e= .returned (.int .i64 t.validE)∧Below w.heap.size w w':=by
  by_cases q:t.k=1
  · exact qih t q w
  by_cases o:t.k=2
  · exact qig t o w
  have e:t.validE=1:=by simp[TreeV.validE,q,o]
  rw[e];exact qgX t q o w
theorem yF (t:TreeV)(w:World):Calls Tryz.prog 58 #[t.val] w fun e w'=>e= .returned (.int .i64 t.validE)∧Below w.heap.size w w':=by
  by_cases q:t.k=1
  · exact qeW t q w
  by_cases o:t.k=2
  · exact qeV t o w
  have e:t.validE=1:=by simp[TreeV.validE,q,o]
  rw[e];exact qdI t q o w
end Go.Proofs.YthjoojnlnlmljaaGreat
namespace Go.Proofs.YthjoojnlnlmljaaGreat
open Go.ChangeShapes Go.WideShapes Go.ChangeAt Go.RowKit Go.Joins Go.Deep
open Go.Lib (hid)
section
variable {H:Type} {enc:TypeId×Value→H} {P:Program} {w:World} {base:Nat} {spare:Nat→Bool} {held:Bool}
end
theorem qiN {α:Type}{l:List α}(h:l.length=9): ∃a b c d e f g i j,l=[a,b,c,d,e,f,g,i,j]:=by
  match l,h with
  | [a,b,c,d,e,f,g,i,j],_=>exact⟨a,b,c,d,e,f,g,i,j,rfl⟩
theorem qfA:Tryz.prog.cellsOf 22=1:=by kernel_rfl
theorem jO:Tryz.prog.cellsOf 3=1:=by kernel_rfl
theorem qgL:Tryz.prog.cellsOf 23=1:=by kernel_rfl
theorem jk:Tryz.prog.cellsOf 24=1:=by kernel_rfl
theorem qhS:Tryz.prog.cellsOf 5=1:=by kernel_rfl
theorem qfx:Tryz.prog.cellsOf 26=9:=by kernel_rfl
theorem qhs {H:Type}{enc:TypeId×Value→H}{w:World}{base o:Nat}{r:Reach}{spare:Nat→Bool}{held:Bool}{v:Value}{d:DataW H}{G:List MemPlace}
    (q:Value.okWide Tryz.prog w r o 44 v) (h:DataW.Trod enc Tryz.prog w base spare held 44 v d G):
    ∃n,v= .int .u64 n∧0≤n∧n≤18446744073709551615:=by
  obtain⟨x,rfl,rfl,rfl,D⟩:=open_int Tryz.underlying44 q h;exact⟨x,rfl,bounds_u64 D⟩
end Go.Proofs.YthjoojnlnlmljaaGreat
namespace Go.Proofs.YthjoojnlnlmljaaGreat
open Go.ChangeShapes Go.WideShapes Go.ChangeAt Go.RowKit
open Go.Lib (hid)
def nth (l:List Nat)(k:Nat):Nat:=l.getD k 0
theorem YW (a:Nat)(l:List Nat)(k:Nat):nth (a::l) (k+1)=nth l k:=rfl
def qR (n d:Nat):Nat:=if n%d=0 then n/d else n/d+1
theorem Yl {n d:Nat}(G:1≤d):qR n d≤n:=by
  unfold qR;split
  · exact Nat.div_le_self _ _
  · rename_i h
    have q:2≤d:=by
      rcases Nat.lt_or_ge d 2 with o|o
      · have:d=1:=by omega
        subst this;simp[Nat.mod_one]at h
      · exact o
    have r:0<n:=by
      rcases Nat.eq_zero_or_pos n with o|o
      · subst o;simp at h
      · exact o
    have D:=Nat.div_lt_self r q;exact D
theorem jm {n d:Nat}(q:1≤n):1≤qR n d:=by
  unfold qR;split
  · rename_i h
    have:=Nat.div_add_mod n d
    rw[h]at this;rcases Nat.eq_zero_or_pos (n/d)with o|o
    · rw[o]at this;simp at this;omega
    · exact o
  · exact Nat.le_add_left _ _
def lvs (total l:Nat):Nat:=max 1 (qR total l)
def Qc (f p:Nat):Nat→Nat→Nat→List Nat
  | 0,_,_=>[]
  | fuel+1,row,n=>(if f=0∨row=p - 1 then 1 else qR n f)::(if(if f=0∨row=p - 1 then 1 else qR n f)=1 then [] else Qc f p fuel (row+1) (if f=0∨row=p - 1 then 1 else qR n f))
def QP (f p n:Nat):List Nat:=n::Qc f p p 1 n
def qH:Nat→List Nat→List (Nat×Nat)
  | _,[]=>[]
  | r,n::l=>(r,n)::qH (r+1) l
theorem yA: ∀(r:Nat) (l:List Nat),(qH r l).length=l.length
  | _,[]=>rfl
  | r,n::l=>by simp[qH,yA (r+1) l]
def TreeV.ln (t:TreeV):Nat:=t.l.toNat
def TreeV.fn (t:TreeV):Nat:=t.f.toNat
def TreeV.pn (t:TreeV):Nat:=t.p.toNat
def TreeV.err (t:TreeV)(total:Nat):Int:=if t.validE≠0 then t.validE else if t.k=2∧281474976710656<qR total t.ln then 2 else 0
theorem qo {t:TreeV}(h:t.validE=0):(t.k=1∨t.k=2)∧1≤t.d∧t.d≤zw t.k∧1≤t.i∧t.i≤zw t.k∧(t.f=0∨2≤t.f∧t.f≤255)∧2≤t.p∧t.p≤255∧t.l≠0∧
    (t.kl:Int)≤zw t.k∧((t.sl:Int)=0∨(t.sl:Int)=jY t.k)∧((t.pl:Int)=0∨(t.pl:Int)=jY t.k):=by
  unfold TreeV.validE at h;split at h
  · cases h
  · split at h
    · cases h
    · split at h
      · cases h
      · split at h
        · cases h
        · split at h
          · cases h
          · refine⟨by omega,by omega,by omega,by omega,by omega,by omega,by omega,by omega,by omega,by omega,?_,?_⟩<;>omega
theorem Q0 {t:TreeV}{total:Nat}(h:t.err total=0):t.validE=0:=by
  unfold TreeV.err at h;split at h
  · omega
  · omega
theorem qep (n d:Nat)(hn:(n:Int)≤18446744073709551615)(I:1≤d)(Y:(d:Int)≤18446744073709551615)(w:World):
    Calls Tryz.prog 145 #[.int .u64 n,.int .u64 d] w fun e w'=>e= .returned (.int .u64 (qR n d))∧w=w':=by
  have V:=Yl (n:=n) I;have Z:(1:Int)≤d:=by omega
  have aa:((d:Int)==0)=false:=by rw[beq_eq_false_iff_ne];omega
  have o:((n/d:Nat):Int)=(n:Int)/(d:Int):=Int.natCast_ediv n d;have r:((n%d:Nat):Int)=(n:Int)%(d:Int):=Int.natCast_emod n d;have X:=Nat.div_le_self n d;by_cases h:n%d=0
  · have G:((n:Int)%(d:Int) != 0)=false:=by
      rw[bne_eq_false_iff_eq,←r,h];rfl
    have q:(qR n d:Int)=(n:Int)/(d:Int):=by simp[qR,h]
    have O:(n:Int)/(d:Int)≤18446744073709551615:=by rw[←o];omega
    have J:0≤(n:Int)/(d:Int):=by rw[←o];exact Int.natCast_nonneg _
    have D:=hid q;clear q o r;go_enter Tryz.func145,Tryz.ntmps145
    go_wp2
    go_ret
    exact⟨by rw[D.out];rfl,rfl⟩
  · have G:((n:Int)%(d:Int) != 0)=true:=by
      rw[bne_iff_ne,←r];intro U;exact h (by exact_mod_cast U)
    have q:(qR n d:Int)=(n:Int)/(d:Int)+1:=by simp[qR,h]
    have O:(n:Int)/(d:Int)+1≤18446744073709551615:=by rw[←o];(have e5:qR n d=n/d+1:=by simp[qR,h]);omega
    have J:0≤(n:Int)/(d:Int):=by rw[←o];exact Int.natCast_nonneg _
    have D:=hid q;clear q o r;go_enter Tryz.func145,Tryz.ntmps145
    go_wp2
    go_ret
    exact⟨by rw[D.out];rfl,rfl⟩
theorem Ji (n d:Nat)(hn:(n:Int)≤18446744073709551615)(I:1≤d)(Y:(d:Int)≤18446744073709551615)(w:World):
    Calls Tryz.prog 86 #[.int .u64 n,.int .u64 d] w fun e w'=>e= .returned (.int .u64 (qR n d))∧w=w':=by
  have V:=Yl (n:=n) I;have Z:(1:Int)≤d:=by omega
  have aa:((d:Int)==0)=false:=by rw[beq_eq_false_iff_ne];omega
  have o:((n/d:Nat):Int)=(n:Int)/(d:Int):=Int.natCast_ediv n d;have r:((n%d:Nat):Int)=(n:Int)%(d:Int):=Int.natCast_emod n d;have X:=Nat.div_le_self n d;by_cases h:n%d=0
  · have G:((n:Int)%(d:Int)==0)=true:=by
      rw[beq_iff_eq,←r,h];rfl
    have q:(qR n d:Int)=(n:Int)/(d:Int):=by simp[qR,h]
    have O:(n:Int)/(d:Int)≤18446744073709551615:=by rw[←o];omega
    have J:0≤(n:Int)/(d:Int):=by rw[←o];exact Int.natCast_nonneg _
    have D:=hid q;clear q o r;go_enter Tryz.func86,Tryz.ntmps86
    go_wp2
    go_ret
    exact⟨by rw[D.out];rfl,rfl⟩
  · have G:((n:Int)%(d:Int)==0)=false:=by
      rw[beq_eq_false_iff_ne,←r];intro U;exact h (by exact_mod_cast U)
    have q:(qR n d:Int)=(n:Int)/(d:Int)+1:=by simp[qR,h]
    have O:(n:Int)/(d:Int)+1≤18446744073709551615:=by rw[←o];(have e5:qR n d=n/d+1:=by simp[qR,h]);omega
    have J:0≤(n:Int)/(d:Int):=by rw[←o];exact Int.natCast_nonneg _
    have D:=hid q;clear q o r;go_enter Tryz.func86,Tryz.ntmps86
    go_wp2
    go_ret
    exact⟨by rw[D.out];rfl,rfl⟩
theorem Q5 {W w1:World}(q:Below W.heap.size W w1):(∀b o,b<W.heap.size→w1.cell? ⟨b,o,none⟩=W.cell? ⟨b,o,none⟩)∧(∀b o,b<W.heap.size→w1.frozen? ⟨b,o,none⟩=W.frozen? ⟨b,o,none⟩):=
  ⟨fun b o h=>q.cell (p:=⟨b,o,none⟩) h,fun b o h=>q.frozen (p:=⟨b,o,none⟩) h⟩
theorem qba (t:TreeV)(hl:0≤t.l∧t.l≤4294967295)(total:Nat)(Y:(total:Int)≤18446744073709551615)(w:World):
    Calls Tryz.prog 115 #[t.val,.int .u64 total] w fun e w'=>e= .returned (.int .i64 (t.err total))∧Below w.heap.size w w':=by
  by_cases q:t.validE=0
  · have Z:=qo q
    have I:=hid q;obtain⟨-, -, -, -, -, -, -, -,G, -, -, -⟩:=Z;have J:1≤t.ln:=by unfold TreeV.ln;omega
    have O:(t.ln:Int)≤18446744073709551615:=by unfold TreeV.ln;omega
    have V:=hid (show t.l=(t.ln:Int) by unfold TreeV.ln;omega);by_cases r:t.k=2
    · have X:(t.k==2)=true:=by simpa using r
      have D:Hid (t.err total=if 281474976710656<qR total t.ln then 2 else 0):=by show _=_;simp[TreeV.err,q,r]
      clear r G q;unfold TreeV.val;go_enter Tryz.func115,Tryz.ntmps115
      go_wp2_with fail
      refine(Zc t _).mono ?_;rintro e w1 ⟨rfl,o⟩;obtain⟨U, -⟩:=Q5 o;rw[I.out];go_wp2_with (go_at_call 145;rw[V.out];refine(qep total t.ln Y J O _).mono ?_;rintro e w2 ⟨rfl,rfl⟩)
      all_goals go_ret
      all_goals refine⟨Zv (by rw[D.out];first|rw[if_pos (by omega)]|rw[if_neg (by omega)]),?_⟩
      all_goals exact(Below.alloc Br Nl _).trans (o.mono (by simp))
    · have X:(t.k==2)=false:=by simpa using r
      have D:Hid (t.err total=0):=by show _=_;simp[TreeV.err,q,r]
      clear r G q;unfold TreeV.val;go_enter Tryz.func115,Tryz.ntmps115
      go_wp2_with fail
      refine(Zc t _).mono ?_;rintro e w1 ⟨rfl,o⟩;obtain⟨U, -⟩:=Q5 o;rw[I.out];go_wp2
      go_ret
      exact⟨Zv (by rw[D.out]),(Below.alloc Br Nl _).trans (o.mono (by simp))⟩
  · have e1:(t.validE != 0)=true:=by rw[bne_iff_ne];exact q
    have D:Hid (t.err total=t.validE):=by show _=_;simp[TreeV.err,q]
    clear q;unfold TreeV.val;go_enter Tryz.func115,Tryz.ntmps115
    go_wp2_with fail
    refine(Zc t _).mono ?_;rintro e w1 ⟨rfl,o⟩;go_wp2
    go_ret
    exact⟨Zv (by rw[D.out]),(Below.alloc Br Nl _).trans (o.mono (by simp))⟩
theorem qu {w w1:World}(o:Obj)(q:Below (w.alloc o).heap.size (w.alloc o) w1):Below w.heap.size w w1:=
  (Below.alloc Br Nl o).trans (q.mono (by simp))
theorem qcW {k:IntKind}{a b:Int}{v:Value}(h:a=b):Ending.returned (.tuple #[.int k a,v])= .returned (.tuple #[.int k b,v]):=by rw[h]
theorem Qx {t:TreeV}{total:Nat}(q:0≤t.l∧t.l≤4294967295)(h:t.err total=0):1≤t.ln∧(t.ln:Int)≤4294967295∧t.l=(t.ln:Int)∧t.validE=0:=by
  have o:=Q0 h;have r:=qo o;unfold TreeV.ln;omega
theorem qfi (total l:Nat)(o:1≤l)(q:(total:Int)≤18446744073709551615):(lvs total l:Int)≤18446744073709551615:=by
  have:=Yl (n:=total) o
  unfold lvs;omega
theorem qb4 (t:TreeV)(hl:0≤t.l∧t.l≤4294967295)(total:Nat)(Y:(total:Int)≤18446744073709551615)(h:t.err total≠0)(w:World):
    Calls Tryz.prog 51 #[t.val,.int .u64 total] w fun e w'=>e= .returned (.tuple #[.int .u64 0,.int .i64 (t.err total)])∧Below w.heap.size w w':=by
  by_cases o:t.validE=0
  · have Z:=qo o
    have X:=hid o;obtain⟨-, -, -, -, -, -, -, -,U, -, -, -⟩:=Z;have J:1≤t.ln:=by unfold TreeV.ln;omega
    have O:(t.ln:Int)≤18446744073709551615:=by unfold TreeV.ln;omega
    have V:=hid (show t.l=(t.ln:Int) by unfold TreeV.ln;omega);have I:t.k=2∧281474976710656<qR total t.ln:=by
      unfold TreeV.err at h;rw[if_neg (by omega)]at h;by_cases r:t.k=2∧281474976710656<qR total t.ln
      · exact r
      · rw[if_neg r]at h;exact absurd rfl h
    have D:Hid (t.err total=2):=by show _=_;simp[TreeV.err,o,I]
    obtain⟨G,aa⟩:=I;have ek:(t.k==2)=true:=by simpa using G
    have en:((qR total t.ln:Int)==0)=false:=by rw[beq_eq_false_iff_ne];omega
    clear G U o h;unfold TreeV.val;go_enter Tryz.func51,Tryz.ntmps51
    go_wp2_with fail
    refine(yF t _).mono ?_;rintro e w1 ⟨rfl,q⟩;obtain⟨r, -⟩:=Q5 q;rw[X.out];go_wp2_with (go_at_call 86;rw[V.out];refine(Ji total t.ln Y J O _).mono ?_;rintro e w2 ⟨rfl,rfl⟩)
    go_ret2
    exact⟨by rw[D.out];rfl,qu _ q⟩
  · have e1:(t.validE != 0)=true:=by rw[bne_iff_ne];exact o
    have D:Hid (t.err total=t.validE):=by show _=_;simp[TreeV.err,o]
    clear o h;unfold TreeV.val;go_enter Tryz.func51,Tryz.ntmps51
    go_wp2_with fail
    refine(yF t _).mono ?_;rintro e w1 ⟨rfl,q⟩;go_wp2
    go_ret2
    exact⟨by rw[D.out];rfl,qu _ q⟩
theorem JD (t:TreeV)(hl:0≤t.l∧t.l≤4294967295)(total:Nat)(X:(total:Int)≤18446744073709551615)(h:t.err total=0)(w:World):
    Calls Tryz.prog 51 #[t.val,.int .u64 total] w fun e w'=>e= .returned (.tuple #[.int .u64 (lvs total t.ln),.int .i64 0])∧Below w.heap.size w w':=by
  obtain⟨r,ac,G,U⟩:=Qx hl h;have O:=hid G;have V:=hid U;have D:(t.ln:Int)≤18446744073709551615:=by omega
  have ab:=Yl (n:=total) r;by_cases Y:qR total t.ln=0
  · have en:((qR total t.ln:Int)==0)=true:=by rw[beq_iff_eq];omega
    have I:Hid ((lvs total t.ln:Int)=1):=by show _=_;unfold lvs;omega
    clear h G U Y;by_cases q:t.k=2
    · have ek:(t.k==2)=true:=by simpa using q
      clear q;unfold TreeV.val;go_enter Tryz.func51,Tryz.ntmps51
      go_wp2_with fail
      refine(yF t _).mono ?_;rintro e w1 ⟨rfl,o⟩;obtain⟨J, -⟩:=Q5 o;rw[V.out];go_wp2_with (go_at_call 86;rw[O.out];refine(Ji total t.ln X r D _).mono ?_;rintro e Z ⟨rfl,rfl⟩)
      go_ret2
      exact⟨qcW (by rw[I.out]),qu _ o⟩
    · have ek:(t.k==2)=false:=by simpa using q
      clear q;unfold TreeV.val;go_enter Tryz.func51,Tryz.ntmps51
      go_wp2_with fail
      refine(yF t _).mono ?_;rintro e w1 ⟨rfl,o⟩;obtain⟨J, -⟩:=Q5 o;rw[V.out];go_wp2_with (go_at_call 86;rw[O.out];refine(Ji total t.ln X r D _).mono ?_;rintro e Z ⟨rfl,rfl⟩)
      go_ret2
      exact⟨qcW (by rw[I.out]),qu _ o⟩
  · have en:((qR total t.ln:Int)==0)=false:=by rw[beq_eq_false_iff_ne];omega
    have I:Hid ((lvs total t.ln:Int)=qR total t.ln):=by show _=_;unfold lvs;omega
    by_cases q:t.k=2
    · have ek:(t.k==2)=true:=by simpa using q
      have aa:qR total t.ln≤281474976710656:=by
        unfold TreeV.err at h;rw[if_neg (by omega)]at h;by_cases J:281474976710656<qR total t.ln
        · rw[if_pos ⟨q,J⟩]at h;cases h
        · omega
      clear q h G U Y;unfold TreeV.val;go_enter Tryz.func51,Tryz.ntmps51
      go_wp2_with fail
      refine(yF t _).mono ?_;rintro e w1 ⟨rfl,o⟩;obtain⟨J, -⟩:=Q5 o;rw[V.out];go_wp2_with (go_at_call 86;rw[O.out];refine(Ji total t.ln X r D _).mono ?_;rintro e Z ⟨rfl,rfl⟩)
      go_ret2
      exact⟨qcW (by rw[I.out]),qu _ o⟩
    · have ek:(t.k==2)=false:=by simpa using q
      clear q h G U Y;unfold TreeV.val;go_enter Tryz.func51,Tryz.ntmps51
      go_wp2_with fail
      refine(yF t _).mono ?_;rintro e w1 ⟨rfl,o⟩;obtain⟨J, -⟩:=Q5 o;rw[V.out];go_wp2_with (go_at_call 86;rw[O.out];refine(Ji total t.ln X r D _).mono ?_;rintro e Z ⟨rfl,rfl⟩)
      go_ret2
      exact⟨qcW (by rw[I.out]),qu _ o⟩
end Go.Proofs.YthjoojnlnlmljaaGreat
namespace Go.Proofs.YthjoojnlnlmljaaGreat
open Go.ChangeShapes Go.WideShapes Go.ChangeAt Go.RowKit Go.Joins Go.Maps
open Go.Lib (hid)
def qaR (n:Nat):Value:= .int .u64 n
theorem qbF:(Tryz.prog.info? 44).map (fun i=>(i.zero,i.size,i.bytes))=some (some (.int .u64 0),1,8):=by kernel_rfl
theorem YU {f p r m fuel:Nat}(o:1≤fuel)(h:f=0∨r=p - 1):Qc f p fuel r m=[1]:=by
  obtain⟨k,rfl⟩: ∃k,fuel=k+1:=⟨fuel - 1,by omega⟩;simp[Qc,h]
theorem JA {f p r m fuel:Nat}(q:1≤fuel)(h: ¬(f=0∨r=p - 1))(o:qR m f=1):Qc f p fuel r m=[1]:=by
  obtain⟨k,rfl⟩: ∃k,fuel=k+1:=⟨fuel - 1,by omega⟩;simp only[Qc,h,if_false,o];simp
theorem j6 {f p r m fuel:Nat}(h: ¬(f=0∨r=p - 1))(o:qR m f≠1):Qc f p (fuel+1) r m=qR m f::Qc f p fuel (r+1) (qR m f):=by
  simp only[Qc,h,if_false,o]
def qi6 (t:TreeV)(total:Nat)(w0:World)(n v i:Value)(wr:World):Prop:=
  ∃(r m fuel:Nat) (pre:List Nat),n= .int .u64 m∧i= .int .i64 r∧1≤r∧r+1≤t.pn∧t.pn≤fuel+r∧(m:Int)≤18446744073709551615∧pre.length=r∧
    QP t.fn t.pn (lvs total t.ln)=pre++Qc t.fn t.pn fuel r m∧wr.ownsRow w0.heap.size 44 1 v pre.length (pre.map qaR)∧Below w0.heap.size w0 wr
theorem qdO (t:TreeV)(q:0≤t.l∧t.l≤4294967295)(total:Nat)(r:(total:Int)≤18446744073709551615)(h:t.err total≠0)(w:World):
    Calls Tryz.prog 87 #[t.val,.int .u64 total] w fun e w'=>e= .returned (.tuple #[.slice none 0 0,.int .i64 (t.err total)])∧Below w.heap.size w w':=by
  have D:(t.err total != 0)=true:=by rw[bne_iff_ne];exact h
  unfold TreeV.val;go_enter Tryz.func87,Tryz.ntmps87
  have H:=hid h;clear h;go_wp2_with fail
  refine(qb4 t q total r H.out _).mono ?_;rintro e w1 ⟨rfl,o⟩;go_wp2
  go_ret2
  exact⟨rfl,qu _ o⟩
theorem Jl (t:TreeV)(hl:0≤t.l∧t.l≤4294967295)(total:Nat)(ht:(total:Int)≤18446744073709551615)(h:t.err total=0)(w:World):
    Calls Tryz.prog 87 #[t.val,.int .u64 total] w fun e w'=> ∃v,e= .returned (.tuple #[v,.int .i64 0])∧
      w'.ownsRow w.heap.size 44 1 v (QP t.fn t.pn (lvs total t.ln)).length ((QP t.fn t.pn (lvs total t.ln)).map qaR)∧Below w.heap.size w w':=by
  obtain⟨i0,hi,ac,ad,ab⟩:=info_parts qbF;obtain⟨aq,aw, -,h0⟩:=Qx hl h;have hv:=qo h0;obtain⟨-, -, -, -, -,hf,ax,aG, -, -, -, -⟩:=hv;have ap:=qfi total t.ln aq ht;have ak:t.p=(t.pn:Int):=by unfold TreeV.pn;omega
  have am:t.f=(t.fn:Int):=by unfold TreeV.fn;omega
  have H:=hid h;have HP:=hid ak;have HF:=hid am;have ay:2≤t.pn:=by omega
  have aA:t.pn≤255:=by omega
  have aD:t.fn≤255:=by omega
  clear h h0 ak am;unfold TreeV.val;go_enter Tryz.func87,Tryz.ntmps87
  go_wp2_with fail
  refine(JD t hl total ht H.out _).mono ?_;rintro e w1 ⟨rfl,V⟩;go_wp2
  have an:w1.cell? ⟨w.heap.size,2,none⟩=some (.int .i64 t.fn):=by rw[←HF.out];exact(V.cell (p:=⟨w.heap.size,2,none⟩) (by simp)).trans (by simp[go_sem])
  have al:w1.cell? ⟨w.heap.size,3,none⟩=some (.int .i64 t.pn):=by rw[←HP.out];exact(V.cell (p:=⟨w.heap.size,3,none⟩) (by simp)).trans (by simp[go_sem])
  have G:w.heap.size<w1.heap.size:=by have:=V.size;simp at this;omega
  go_loopw [6,8,9] (fun n v i wr=>qi6 t total w1 n v i wr) (fun _ _ i _=>t.pn - (intOf i).toNat)
  case atStart=>
    refine⟨1,lvs total t.ln,t.pn,[lvs total t.ln],rfl,rfl,Nat.le_refl _,by omega,by omega,ap,rfl,rfl,?_,?_⟩
    · exact World.ownsRow_lit w1 #[.int .u64 (lvs total t.ln)] 1 Nl (by unfold maxLen;omega) rfl
    · exact Below.alloc Br Nl _
  case round=>
    obtain⟨r,m,fuel,Y,rfl,rfl,aC,av,az,hm,ai,aj,D,I⟩:=hrel;have aF:wr.cell? ⟨w.heap.size,2,none⟩=some (.int .i64 t.fn):=(I.cell (p:=⟨w.heap.size,2,none⟩) G).trans an;have aB:wr.cell? ⟨w.heap.size,3,none⟩=some (.int .i64 t.pn):=(I.cell (p:=⟨w.heap.size,3,none⟩) G).trans al;have ae:w1.heap.size≤wr.heap.size:=I.size;have af:=hid aj;have ao:=hid ai;have ar:Y.length≤254:=by omega
    have aa:1≤fuel:=by omega
    clear aj an al ai;by_cases U:t.fn=0
    · have e1:((t.fn:Int)==0)=true:=by rw[beq_iff_eq];omega
      have HS:=hid (YU (m:=m) aa (.inl U:t.fn=0∨r=t.pn - 1));clear U;go_wp2_with (at_builtin;refine wpList_append_own _ rfl _ _ 105 rfl w1.heap.size 44 i0 (.int .u64 0) 1 8 Tryz.underlying105 hi ac ad ab rfl (by decide) _ _ _ rfl (D.alloc _) ⟨wr.heap.size,0,none⟩ 1 1 [.int .u64 1] rfl rfl (cell_one_new _ _ _) (by simp[Value.oneCell']) (by unfold maxLen;omega) (by omega) (by simp;omega) ?_;intro v' X q o _)
      go_ret2
      have O:Below w1.heap.size w1 X:=(I.alloc ae _).grown o (by simp;omega) (fun k e=>(D.lt k e).1);refine⟨v',rfl,?_,((qu _ V).trans (O.mono (Nat.le_of_lt G)))⟩;have J:QP t.fn t.pn (lvs total t.ln)=Y++[1]:=by rw[af.out,HS.out]
      rw[J];have:=ownsRow_le q (Nat.le_of_lt G)
      simpa [qaR] using this
    have e1:((t.fn:Int)==0)=false:=by rw[beq_eq_false_iff_ne];omega
    by_cases Z:r=t.pn - 1
    · have e2:((r:Int)==(t.pn:Int) - 1)=true:=by rw[beq_iff_eq];omega
      have HS:=hid (YU (m:=m) aa (.inr Z:t.fn=0∨r=t.pn - 1));clear Z U;go_wp2_with (at_builtin;refine wpList_append_own _ rfl _ _ 105 rfl w1.heap.size 44 i0 (.int .u64 0) 1 8 Tryz.underlying105 hi ac ad ab rfl (by decide) _ _ _ rfl (D.alloc _) ⟨wr.heap.size,0,none⟩ 1 1 [.int .u64 1] rfl rfl (cell_one_new _ _ _) (by simp[Value.oneCell']) (by unfold maxLen;omega) (by omega) (by simp;omega) ?_;intro v' X q o _)
      go_ret2
      have O:Below w1.heap.size w1 X:=(I.alloc ae _).grown o (by simp;omega) (fun k e=>(D.lt k e).1);refine⟨v',rfl,?_,((qu _ V).trans (O.mono (Nat.le_of_lt G)))⟩;have J:QP t.fn t.pn (lvs total t.ln)=Y++[1]:=by rw[af.out,HS.out]
      rw[J];have:=ownsRow_le q (Nat.le_of_lt G)
      simpa [qaR] using this
    have e2:((r:Int)==(t.pn:Int) - 1)=false:=by rw[beq_eq_false_iff_ne];omega
    have ag: ¬(t.fn=0∨r=t.pn - 1):=fun h=>h.elim U Z
    have aE:=Yl (n:=m) (show 1≤t.fn by omega);by_cases h1:qR m t.fn=1
    · have e3:((qR m t.fn:Int)==1)=true:=by rw[beq_iff_eq];omega
      have HS:=hid (JA aa ag h1);have H1:=hid h1;have ah:1≤t.fn:=by omega
      clear Z U ag h1;go_wp2_with (first|(at_builtin;refine wpList_append_own _ rfl _ _ 105 rfl w1.heap.size 44 i0 (.int .u64 0) 1 8 Tryz.underlying105 hi ac ad ab rfl (by decide) _ _ _ rfl (D.alloc _) ⟨wr.heap.size,0,none⟩ 1 1 [.int .u64 (qR m t.fn:Nat)] rfl rfl (cell_one_new _ _ _) (by simp[Value.oneCell']) (by unfold maxLen;omega) (by omega) (by simp;omega) ?_;intro v' X q o _)|(go_at_call 86;refine(Ji m t.fn hm ah (by omega) _).mono ?_;rintro e X ⟨rfl,rfl⟩))
      go_ret2
      have O:Below w1.heap.size w1 X:=(I.alloc ae _).grown o (by simp;omega) (fun k e=>(D.lt k e).1);refine⟨v',rfl,?_,((qu _ V).trans (O.mono (Nat.le_of_lt G)))⟩;have J:QP t.fn t.pn (lvs total t.ln)=Y++[qR m t.fn]:=by rw[af.out,HS.out,H1.out]
      rw[J];have:=ownsRow_le q (Nat.le_of_lt G)
      simpa [qaR] using this
    · have e3:((qR m t.fn:Int)==1)=false:=by rw[beq_eq_false_iff_ne];omega
      obtain⟨fu,rfl⟩: ∃fu,fuel=fu+1:=⟨fuel - 1,by omega⟩;have HS:=hid (j6 (fuel:=fu) ag h1);have ah:1≤t.fn:=by omega
      have au:r+2≤t.pn:=by omega
      clear Z U ag h1;go_wp2_with (first|(at_builtin;refine wpList_append_own _ rfl _ _ 105 rfl w1.heap.size 44 i0 (.int .u64 0) 1 8 Tryz.underlying105 hi ac ad ab rfl (by decide) _ _ _ rfl (D.alloc _) ⟨wr.heap.size,0,none⟩ 1 1 [.int .u64 (qR m t.fn:Nat)] rfl rfl (cell_one_new _ _ _) (by simp[Value.oneCell']) (by unfold maxLen;omega) (by omega) (by simp;omega) ?_;intro v' X q o _)|(go_at_call 86;refine(Ji m t.fn hm ah (by omega) _).mono ?_;rintro e X ⟨rfl,rfl⟩))
      go_roundw
      case rel=>
        have O:Below w1.heap.size w1 X:=(I.alloc ae _).grown o (by simp;omega) (fun k e=>(D.lt k e).1);refine⟨r+1,qR m t.fn,fu,Y++[qR m t.fn],rfl,by simp,by omega,by omega,by omega,by omega,by simp[ao.out],?_,?_,O⟩
        · rw[af.out,HS.out];simp
        · simpa [qaR] using q
      case measure=>simp[intOf];omega
end Go.Proofs.YthjoojnlnlmljaaGreat
