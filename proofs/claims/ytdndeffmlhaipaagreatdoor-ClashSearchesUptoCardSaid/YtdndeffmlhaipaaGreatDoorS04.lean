/- The walks of the reference's Valid; Valid on both sides, of every tree. No condition. -/
import Derived.Test.YtdndeffmlhaipaaGreatDoorP00
import Derived.Test.YtdndeffmlhaipaaGreatDoorS03
import Derived.OpenShut
import Derived.Deep.Fields
import Derived.Lib.SmallJoins
import Derived.Maps.AppendAt
set_option linter.all false
set_option maxRecDepth 100000
set_option maxHeartbeats 8000000
namespace Go.Proofs.YtdndeffmlhaipaaGreatDoor
open Go.ChangeShapes Go.WideShapes Go.ChangeAt Go.RowKit
open Go.Lib (hid)
theorem qcT (w:World):Calls Tryz.prog 59 #[.int .i64 1] w fun e w'=>e= .returned (.tuple #[.int .i64 64,.int .i64 16])∧w=w':=by
  go_enter Tryz.func59,Tryz.ntmps59
  go_wp2
  go_ret2
  exact⟨rfl,rfl⟩
theorem qcS (w:World):Calls Tryz.prog 59 #[.int .i64 2] w fun e w'=>e= .returned (.tuple #[.int .i64 32,.int .i64 8])∧w=w':=by
  go_enter Tryz.func59,Tryz.ntmps59
  go_wp2
  go_ret2
  exact⟨rfl,rfl⟩
theorem qbV (k:Int)(h1:k≠1)(h2:k≠2)(w:World):Calls Tryz.prog 59 #[.int .i64 k] w fun e w'=>e= .returned (.tuple #[.int .i64 0,.int .i64 0])∧w=w':=by
  have e1:(k==1)=false:=by simpa using h1
  have e2:(k==2)=false:=by simpa using h2
  go_enter Tryz.func59,Tryz.ntmps59
  go_wp2
  go_ret2
  exact⟨rfl,rfl⟩
theorem qbS (t:TreeV)(h1:t.k≠1)(h2:t.k≠2)(w:World):Calls Tryz.prog 42 #[t.val] w fun e w'=>e= .returned (.int .i64 1)∧Below w.heap.size w w':=by
  unfold TreeV.val;go_enter Tryz.func42,Tryz.ntmps42
  go_wp2_with (go_at_call 59;refine(qbV t.k h1 h2 _).mono ?_;rintro e w' ⟨rfl,rfl⟩)
  go_ret
  exact⟨rfl,by repeat(first|exact Below.refl _ _|(refine Below.alloc ?_ (by simp) _))⟩
theorem qcP (t:TreeV)(h1:t.k=1)(w:World):Calls Tryz.prog 42 #[t.val] w fun e w'=>e= .returned (.int .i64 t.validE)∧Below w.heap.size w w':=by
  obtain⟨k,d,f,p,l,i,ka,kl,kc,sa,sl,sc,pa,pl,pc⟩:=t;obtain rfl:k=1:=h1;have e_1:Yt 1=64:=rfl;have e_2:ZH 1=16:=rfl;simp only[TreeV.val];go_enter Tryz.func42,Tryz.ntmps42
  go_wp2_with (go_at_call 59;refine(qcT _).mono ?_;rintro e w' ⟨rfl,rfl⟩)
  all_goals go_ret
  all_goals refine⟨Jr ?_,by repeat(first|exact Below.refl _ _|(refine Below.alloc ?_ (by simp) _))⟩
  all_goals try simp only[beq_iff_eq,beq_eq_false_iff_ne,bne_iff_ne,bne_eq_false_iff_eq]at*
  all_goals simp only[TreeV.validE,e_1,e_2]
  all_goals(repeat' split)<;>omega
theorem qcO (t:TreeV)(h1:t.k=2)(w:World):Calls Tryz.prog 42 #[t.val] w fun e w'=>e= .returned (.int .i64 t.validE)∧Below w.heap.size w w':=by
  obtain⟨k,d,f,p,l,i,ka,kl,kc,sa,sl,sc,pa,pl,pc⟩:=t;obtain rfl:k=2:=h1;have e_1:Yt 2=32:=rfl;have e_2:ZH 2=8:=rfl;simp only[TreeV.val];go_enter Tryz.func42,Tryz.ntmps42
  go_wp2_with (go_at_call 59;refine(qcS _).mono ?_;rintro e w' ⟨rfl,rfl⟩)
  all_goals go_ret
  all_goals refine⟨Jr ?_,by repeat(first|exact Below.refl _ _|(refine Below.alloc ?_ (by simp) _))⟩
  all_goals try simp only[beq_iff_eq,beq_eq_false_iff_ne,bne_iff_ne,bne_eq_false_iff_eq]at*
  all_goals simp only[TreeV.validE,e_1,e_2]
  all_goals(repeat' split)<;>omega
theorem Y8 (t:TreeV)(w:World):Calls Tryz.prog 22 #[t.val] w fun e w'=>e= .returned (.int .i64 t.validE)∧Below w.heap.size w w':=by
  by_cases h1:t.k=1
  · exact qfL t h1 w
  by_cases h2:t.k=2
  · exact qfK t h2 w
  have e:t.validE=1:=by simp[TreeV.validE,h1,h2]
  rw[e];exact qeI t h1 h2 w
theorem Q6 (t:TreeV)(w:World):Calls Tryz.prog 42 #[t.val] w fun e w'=>e= .returned (.int .i64 t.validE)∧Below w.heap.size w w':=by
  by_cases h1:t.k=1
  · exact qcP t h1 w
  by_cases h2:t.k=2
  · exact qcO t h2 w
  have e:t.validE=1:=by simp[TreeV.validE,h1,h2]
  rw[e];exact qbS t h1 h2 w
end Go.Proofs.YtdndeffmlhaipaaGreatDoor
namespace Go.Proofs.YtdndeffmlhaipaaGreatDoor
open Go.ChangeShapes Go.WideShapes Go.ChangeAt Go.RowKit Go.Joins Go.Deep
open Go.Lib (hid)
section
variable {H:Type} {enc:TypeId×Value→H} {P:Program} {w:World} {base:Nat} {spare:Nat→Bool} {held:Bool}
end
theorem qgf {α:Type}{l:List α}(h:l.length=9): ∃a b c d e f g i j,l=[a,b,c,d,e,f,g,i,j]:=by
  match l,h with
  | [a,b,c,d,e,f,g,i,j],_=>exact⟨a,b,c,d,e,f,g,i,j,rfl⟩
theorem qdq:Tryz.prog.cellsOf 22=1:=by kernel_rfl
theorem Zx:Tryz.prog.cellsOf 3=1:=by kernel_rfl
theorem qeB:Tryz.prog.cellsOf 23=1:=by kernel_rfl
theorem z7:Tryz.prog.cellsOf 24=1:=by kernel_rfl
theorem qfu:Tryz.prog.cellsOf 5=1:=by kernel_rfl
theorem qdo:Tryz.prog.cellsOf 26=9:=by kernel_rfl
theorem qb5 {H:Type}{enc:TypeId×Value→H}{w:World}{base b0:Nat}{r:Reach}{spare:Nat→Bool}{held:Bool}{v:Value}{d:DataW H}{ps:List MemPlace}
    (hv:Value.okWide Tryz.prog w r b0 3 v) (h:DataW.Trod enc Tryz.prog w base spare held 3 v d ps):
    ∃n,v= .int .i64 n∧ -9223372036854775808≤n∧n≤9223372036854775807:=by
  obtain⟨x,rfl,rfl,rfl,wx⟩:=open_int Tryz.underlying3 hv h;exact⟨x,rfl,bounds_i64 wx⟩
end Go.Proofs.YtdndeffmlhaipaaGreatDoor
namespace Go.Proofs.YtdndeffmlhaipaaGreatDoor
open Go.ChangeShapes Go.WideShapes Go.ChangeAt Go.RowKit
open Go.Lib (hid)
def nth (l:List Nat)(k:Nat):Nat:=l.getD k 0
theorem Y5 (a:Nat)(l:List Nat)(k:Nat):nth (a::l) (k+1)=nth l k:=rfl
def Qc (n d:Nat):Nat:=if n%d=0 then n/d else n/d+1
theorem Yf {n d:Nat}(hd:1≤d):Qc n d≤n:=by
  unfold Qc;split
  · exact Nat.div_le_self _ _
  · rename_i h
    have h2:2≤d:=by
      rcases Nat.lt_or_ge d 2 with h'|h'
      · have:d=1:=by omega
        subst this;simp[Nat.mod_one]at h
      · exact h'
    have hn:0<n:=by
      rcases Nat.eq_zero_or_pos n with h'|h'
      · subst h';simp at h
      · exact h'
    have h3:=Nat.div_lt_self hn h2;exact h3
theorem jp {n d:Nat}(hn:1≤n):1≤Qc n d:=by
  unfold Qc;split
  · rename_i h
    have:=Nat.div_add_mod n d
    rw[h]at this;rcases Nat.eq_zero_or_pos (n/d)with h'|h'
    · rw[h']at this;simp at this;omega
    · exact h'
  · exact Nat.le_add_left _ _
def lvs (total l:Nat):Nat:=max 1 (Qc total l)
def qV (f p:Nat):Nat→Nat→Nat→List Nat
  | 0,_,_=>[]
  | fuel+1,row,n=>(if f=0∨row=p - 1 then 1 else Qc n f)::(if(if f=0∨row=p - 1 then 1 else Qc n f)=1 then [] else qV f p fuel (row+1) (if f=0∨row=p - 1 then 1 else Qc n f))
def YP (f p n:Nat):List Nat:=n::qV f p p 1 n
def TreeV.ln (t:TreeV):Nat:=t.l.toNat
def TreeV.fn (t:TreeV):Nat:=t.f.toNat
def TreeV.pn (t:TreeV):Nat:=t.p.toNat
def TreeV.err (t:TreeV)(total:Nat):Int:=if t.validE≠0 then t.validE else if t.k=2∧281474976710656<Qc total t.ln then 2 else 0
theorem qq {t:TreeV}(h:t.validE=0):(t.k=1∨t.k=2)∧1≤t.d∧t.d≤Yt t.k∧1≤t.i∧t.i≤Yt t.k∧(t.f=0∨2≤t.f∧t.f≤255)∧2≤t.p∧t.p≤255∧t.l≠0∧
    (t.kl:Int)≤Yt t.k∧((t.sl:Int)=0∨(t.sl:Int)=ZH t.k)∧((t.pl:Int)=0∨(t.pl:Int)=ZH t.k):=by
  unfold TreeV.validE at h;split at h
  · cases h
  · split at h
    · cases h
    · split at h
      · cases h
      · split at h
        · cases h
        · split at h
          · cases h
          · refine⟨by omega,by omega,by omega,by omega,by omega,by omega,by omega,by omega,by omega,by omega,?_,?_⟩<;>omega
theorem yb {t:TreeV}{total:Nat}(h:t.err total=0):t.validE=0:=by
  unfold TreeV.err at h;split at h
  · omega
  · omega
theorem ZT (n d:Nat)(hn:(n:Int)≤18446744073709551615)(hd:1≤d)(hd2:(d:Int)≤18446744073709551615)(w:World):
    Calls Tryz.prog 78 #[.int .u64 n,.int .u64 d] w fun e w'=>e= .returned (.int .u64 (Qc n d))∧w=w':=by
  have hdn:=Yf (n:=n) hd;have hd1:(1:Int)≤d:=by omega
  have hd0:((d:Int)==0)=false:=by rw[beq_eq_false_iff_ne];omega
  have hq:((n/d:Nat):Int)=(n:Int)/(d:Int):=Int.natCast_ediv n d;have hm:((n%d:Nat):Int)=(n:Int)%(d:Int):=Int.natCast_emod n d;have hq2:=Nat.div_le_self n d;by_cases h:n%d=0
  · have e1:((n:Int)%(d:Int)==0)=true:=by
      rw[beq_iff_eq,←hm,h];rfl
    have e2:(Qc n d:Int)=(n:Int)/(d:Int):=by simp[Qc,h]
    have e3:(n:Int)/(d:Int)≤18446744073709551615:=by rw[←hq];omega
    have e4:0≤(n:Int)/(d:Int):=by rw[←hq];exact Int.natCast_nonneg _
    have E2:=hid e2;clear e2 hq hm;go_enter Tryz.func78,Tryz.ntmps78
    go_wp2
    go_ret
    exact⟨by rw[E2.out];rfl,rfl⟩
  · have e1:((n:Int)%(d:Int)==0)=false:=by
      rw[beq_eq_false_iff_ne,←hm];intro h';exact h (by exact_mod_cast h')
    have e2:(Qc n d:Int)=(n:Int)/(d:Int)+1:=by simp[Qc,h]
    have e3:(n:Int)/(d:Int)+1≤18446744073709551615:=by rw[←hq];(have e5:Qc n d=n/d+1:=by simp[Qc,h]);omega
    have e4:0≤(n:Int)/(d:Int):=by rw[←hq];exact Int.natCast_nonneg _
    have E2:=hid e2;clear e2 hq hm;go_enter Tryz.func78,Tryz.ntmps78
    go_wp2
    go_ret
    exact⟨by rw[E2.out];rfl,rfl⟩
theorem js {W w1:World}(hb:Below W.heap.size W w1):(∀b o,b<W.heap.size→w1.cell? ⟨b,o,none⟩=W.cell? ⟨b,o,none⟩)∧(∀b o,b<W.heap.size→w1.frozen? ⟨b,o,none⟩=W.frozen? ⟨b,o,none⟩):=
  ⟨fun b o h=>hb.cell (p:=⟨b,o,none⟩) h,fun b o h=>hb.frozen (p:=⟨b,o,none⟩) h⟩
theorem qG {w w1:World}(o:Obj)(hb:Below (w.alloc o).heap.size (w.alloc o) w1):Below w.heap.size w w1:=
  (Below.alloc Br Nl o).trans (hb.mono (by simp))
theorem qbc {k:IntKind}{a b:Int}{v:Value}(h:a=b):Ending.returned (.tuple #[.int k a,v])= .returned (.tuple #[.int k b,v]):=by rw[h]
theorem yl {t:TreeV}{total:Nat}(hl:0≤t.l∧t.l≤4294967295)(h:t.err total=0):1≤t.ln∧(t.ln:Int)≤4294967295∧t.l=(t.ln:Int)∧t.validE=0:=by
  have h0:=yb h;have hv:=qq h0;unfold TreeV.ln;omega
theorem qfd (total l:Nat)(hl:1≤l)(ht:(total:Int)≤18446744073709551615):(lvs total l:Int)≤18446744073709551615:=by
  have:=Yf (n:=total) hl
  unfold lvs;omega
theorem qap (t:TreeV)(hl:0≤t.l∧t.l≤4294967295)(total:Nat)(ht:(total:Int)≤18446744073709551615)(h:t.err total≠0)(w:World):
    Calls Tryz.prog 60 #[t.val,.int .u64 total] w fun e w'=>e= .returned (.tuple #[.int .u64 0,.int .i64 (t.err total)])∧Below w.heap.size w w':=by
  by_cases h0:t.validE=0
  · have hv:=qq h0
    have H0:=hid h0;obtain⟨-, -, -, -, -, -, -, -,hl0, -, -, -⟩:=hv;have hl1:1≤t.ln:=by unfold TreeV.ln;omega
    have hl2:(t.ln:Int)≤18446744073709551615:=by unfold TreeV.ln;omega
    have HL:=hid (show t.l=(t.ln:Int) by unfold TreeV.ln;omega);have h3:t.k=2∧281474976710656<Qc total t.ln:=by
      unfold TreeV.err at h;rw[if_neg (by omega)]at h;by_cases hc:t.k=2∧281474976710656<Qc total t.ln
      · exact hc
      · rw[if_neg hc]at h;exact absurd rfl h
    have HE:Hid (t.err total=2):=by show _=_;simp[TreeV.err,h0,h3]
    obtain⟨hk,hcd⟩:=h3;have ek:(t.k==2)=true:=by simpa using hk
    have en:((Qc total t.ln:Int)==0)=false:=by rw[beq_eq_false_iff_ne];omega
    clear hk hl0 h0 h;unfold TreeV.val;go_enter Tryz.func60,Tryz.ntmps60
    go_wp2_with fail
    refine(Q6 t _).mono ?_;rintro e w1 ⟨rfl,hb1⟩;obtain⟨hc, -⟩:=js hb1;rw[H0.out];go_wp2_with (go_at_call 78;rw[HL.out];refine(ZT total t.ln ht hl1 hl2 _).mono ?_;rintro e w2 ⟨rfl,rfl⟩)
    go_ret2
    exact⟨by rw[HE.out];rfl,qG _ hb1⟩
  · have e1:(t.validE != 0)=true:=by rw[bne_iff_ne];exact h0
    have HE:Hid (t.err total=t.validE):=by show _=_;simp[TreeV.err,h0]
    clear h0 h;unfold TreeV.val;go_enter Tryz.func60,Tryz.ntmps60
    go_wp2_with fail
    refine(Q6 t _).mono ?_;rintro e w1 ⟨rfl,hb1⟩;go_wp2
    go_ret2
    exact⟨by rw[HE.out];rfl,qG _ hb1⟩
theorem jc (t:TreeV)(hl:0≤t.l∧t.l≤4294967295)(total:Nat)(ht:(total:Int)≤18446744073709551615)(h:t.err total=0)(w:World):
    Calls Tryz.prog 60 #[t.val,.int .u64 total] w fun e w'=>e= .returned (.tuple #[.int .u64 (lvs total t.ln),.int .i64 0])∧Below w.heap.size w w':=by
  obtain⟨hl1,hl2,HL0,h0⟩:=yl hl h;have HL:=hid HL0;have H0:=hid h0;have hl3:(t.ln:Int)≤18446744073709551615:=by omega
  have hcd:=Yf (n:=total) hl1;by_cases hn:Qc total t.ln=0
  · have en:((Qc total t.ln:Int)==0)=true:=by rw[beq_iff_eq];omega
    have hm:Hid ((lvs total t.ln:Int)=1):=by show _=_;unfold lvs;omega
    clear h HL0 h0 hn;by_cases hk:t.k=2
    · have ek:(t.k==2)=true:=by simpa using hk
      clear hk;unfold TreeV.val;go_enter Tryz.func60,Tryz.ntmps60
      go_wp2_with fail
      refine(Q6 t _).mono ?_;rintro e w1 ⟨rfl,hb1⟩;obtain⟨hc, -⟩:=js hb1;rw[H0.out];go_wp2_with (go_at_call 78;rw[HL.out];refine(ZT total t.ln ht hl1 hl3 _).mono ?_;rintro e w2 ⟨rfl,rfl⟩)
      go_ret2
      exact⟨qbc (by rw[hm.out]),qG _ hb1⟩
    · have ek:(t.k==2)=false:=by simpa using hk
      clear hk;unfold TreeV.val;go_enter Tryz.func60,Tryz.ntmps60
      go_wp2_with fail
      refine(Q6 t _).mono ?_;rintro e w1 ⟨rfl,hb1⟩;obtain⟨hc, -⟩:=js hb1;rw[H0.out];go_wp2_with (go_at_call 78;rw[HL.out];refine(ZT total t.ln ht hl1 hl3 _).mono ?_;rintro e w2 ⟨rfl,rfl⟩)
      go_ret2
      exact⟨qbc (by rw[hm.out]),qG _ hb1⟩
  · have en:((Qc total t.ln:Int)==0)=false:=by rw[beq_eq_false_iff_ne];omega
    have hm:Hid ((lvs total t.ln:Int)=Qc total t.ln):=by show _=_;unfold lvs;omega
    by_cases hk:t.k=2
    · have ek:(t.k==2)=true:=by simpa using hk
      have hle:Qc total t.ln≤281474976710656:=by
        unfold TreeV.err at h;rw[if_neg (by omega)]at h;by_cases hc:281474976710656<Qc total t.ln
        · rw[if_pos ⟨hk,hc⟩]at h;cases h
        · omega
      clear hk h HL0 h0 hn;unfold TreeV.val;go_enter Tryz.func60,Tryz.ntmps60
      go_wp2_with fail
      refine(Q6 t _).mono ?_;rintro e w1 ⟨rfl,hb1⟩;obtain⟨hc, -⟩:=js hb1;rw[H0.out];go_wp2_with (go_at_call 78;rw[HL.out];refine(ZT total t.ln ht hl1 hl3 _).mono ?_;rintro e w2 ⟨rfl,rfl⟩)
      go_ret2
      exact⟨qbc (by rw[hm.out]),qG _ hb1⟩
    · have ek:(t.k==2)=false:=by simpa using hk
      clear hk h HL0 h0 hn;unfold TreeV.val;go_enter Tryz.func60,Tryz.ntmps60
      go_wp2_with fail
      refine(Q6 t _).mono ?_;rintro e w1 ⟨rfl,hb1⟩;obtain⟨hc, -⟩:=js hb1;rw[H0.out];go_wp2_with (go_at_call 78;rw[HL.out];refine(ZT total t.ln ht hl1 hl3 _).mono ?_;rintro e w2 ⟨rfl,rfl⟩)
      go_ret2
      exact⟨qbc (by rw[hm.out]),qG _ hb1⟩
end Go.Proofs.YtdndeffmlhaipaaGreatDoor
namespace Go.Proofs.YtdndeffmlhaipaaGreatDoor
open Go.ChangeShapes Go.WideShapes Go.ChangeAt Go.RowKit Go.Joins Go.Maps
open Go.Lib (hid)
def qaw (n:Nat):Value:= .int .u64 n
theorem JW:(Tryz.prog.info? 54).map (fun i=>(i.zero,i.size,i.bytes))=some (some (.int .u64 0),1,8):=by kernel_rfl
theorem ZI {f p r m fuel:Nat}(hf:1≤fuel)(h:f=0∨r=p - 1):qV f p fuel r m=[1]:=by
  obtain⟨k,rfl⟩: ∃k,fuel=k+1:=⟨fuel - 1,by omega⟩;simp[qV,h]
theorem qba {f p r m fuel:Nat}(hf:1≤fuel)(h: ¬(f=0∨r=p - 1))(h1:Qc m f=1):qV f p fuel r m=[1]:=by
  obtain⟨k,rfl⟩: ∃k,fuel=k+1:=⟨fuel - 1,by omega⟩;simp only[qV,h,if_false,h1];simp
theorem qaj {f p r m fuel:Nat}(h: ¬(f=0∨r=p - 1))(h1:Qc m f≠1):qV f p (fuel+1) r m=Qc m f::qV f p fuel (r+1) (Qc m f):=by
  simp only[qV,h,if_false,h1]
def qgy (t:TreeV)(total:Nat)(w0:World)(n v i:Value)(wr:World):Prop:=
  ∃(r m fuel:Nat) (pre:List Nat),n= .int .u64 m∧i= .int .i64 r∧1≤r∧r+1≤t.pn∧t.pn≤fuel+r∧(m:Int)≤18446744073709551615∧pre.length=r∧
    YP t.fn t.pn (lvs total t.ln)=pre++qV t.fn t.pn fuel r m∧wr.ownsRow w0.heap.size 54 1 v pre.length (pre.map qaw)∧Below w0.heap.size w0 wr
theorem qbW (t:TreeV)(hl:0≤t.l∧t.l≤4294967295)(total:Nat)(ht:(total:Int)≤18446744073709551615)(h:t.err total≠0)(w:World):
    Calls Tryz.prog 64 #[t.val,.int .u64 total] w fun e w'=>e= .returned (.tuple #[.slice none 0 0,.int .i64 (t.err total)])∧Below w.heap.size w w':=by
  have e1:(t.err total != 0)=true:=by rw[bne_iff_ne];exact h
  unfold TreeV.val;go_enter Tryz.func64,Tryz.ntmps64
  have H:=hid h;clear h;go_wp2_with fail
  refine(qap t hl total ht H.out _).mono ?_;rintro e w1 ⟨rfl,hb1⟩;go_wp2
  go_ret2
  exact⟨rfl,qG _ hb1⟩
theorem JF (t:TreeV)(hl:0≤t.l∧t.l≤4294967295)(total:Nat)(ht:(total:Int)≤18446744073709551615)(h:t.err total=0)(w:World):
    Calls Tryz.prog 64 #[t.val,.int .u64 total] w fun e w'=> ∃v,e= .returned (.tuple #[v,.int .i64 0])∧
      w'.ownsRow w.heap.size 54 1 v (YP t.fn t.pn (lvs total t.ln)).length ((YP t.fn t.pn (lvs total t.ln)).map qaw)∧Below w.heap.size w w':=by
  obtain⟨i0,hi,hz0,hz1,hz2⟩:=info_parts JW;obtain⟨hl1,hl2, -,h0⟩:=yl hl h;have hv:=qq h0;obtain⟨-, -, -, -, -,hf,hp2,hp3, -, -, -, -⟩:=hv;have hlv:=qfd total t.ln hl1 ht;have hpn:t.p=(t.pn:Int):=by unfold TreeV.pn;omega
  have hfn:t.f=(t.fn:Int):=by unfold TreeV.fn;omega
  have H:=hid h;have HP:=hid hpn;have HF:=hid hfn;have hp4:2≤t.pn:=by omega
  have hp5:t.pn≤255:=by omega
  have hf3:t.fn≤255:=by omega
  clear h h0 hpn hfn;unfold TreeV.val;go_enter Tryz.func64,Tryz.ntmps64
  go_wp2_with fail
  refine(jc t hl total ht H.out _).mono ?_;rintro e w1 ⟨rfl,hb1⟩;go_wp2
  have hcf:w1.cell? ⟨w.heap.size,2,none⟩=some (.int .i64 t.fn):=by rw[←HF.out];exact(hb1.cell (p:=⟨w.heap.size,2,none⟩) (by simp)).trans (by simp[go_sem])
  have hcp:w1.cell? ⟨w.heap.size,3,none⟩=some (.int .i64 t.pn):=by rw[←HP.out];exact(hb1.cell (p:=⟨w.heap.size,3,none⟩) (by simp)).trans (by simp[go_sem])
  have hs1:w.heap.size<w1.heap.size:=by have:=hb1.size;simp at this;omega
  go_loopw [6,8,9] (fun n v i wr=>qgy t total w1 n v i wr) (fun _ _ i _=>t.pn - (intOf i).toNat)
  case atStart=>
    refine⟨1,lvs total t.ln,t.pn,[lvs total t.ln],rfl,rfl,Nat.le_refl _,by omega,by omega,hlv,rfl,rfl,?_,?_⟩
    · exact World.ownsRow_lit w1 #[.int .u64 (lvs total t.ln)] 1 Nl (by unfold maxLen;omega) rfl
    · exact Below.alloc Br Nl _
  case round=>
    obtain⟨r,m,fuel,pre,rfl,rfl,hr1,hr2,hfu,hm,hpl,hro,hown,hb2⟩:=hrel;have gcf:wr.cell? ⟨w.heap.size,2,none⟩=some (.int .i64 t.fn):=(hb2.cell (p:=⟨w.heap.size,2,none⟩) hs1).trans hcf;have gcp:wr.cell? ⟨w.heap.size,3,none⟩=some (.int .i64 t.pn):=(hb2.cell (p:=⟨w.heap.size,3,none⟩) hs1).trans hcp;have hsr:w1.heap.size≤wr.heap.size:=hb2.size;have HRO:=hid hro;have HPL:=hid hpl;have hpl2:pre.length≤254:=by omega
    have hfu1:1≤fuel:=by omega
    clear hro hcf hcp hpl;by_cases hf0:t.fn=0
    · have e1:((t.fn:Int)==0)=true:=by rw[beq_iff_eq];omega
      have HS:=hid (ZI (m:=m) hfu1 (.inl hf0:t.fn=0∨r=t.pn - 1));clear hf0;go_wp2_with (at_builtin;refine wpList_append_own _ rfl _ _ 123 rfl w1.heap.size 54 i0 (.int .u64 0) 1 8 Tryz.underlying123 hi hz0 hz1 hz2 rfl (by decide) _ _ _ rfl (hown.alloc _) ⟨wr.heap.size,0,none⟩ 1 1 [.int .u64 1] rfl rfl (cell_one_new _ _ _) (by simp[Value.oneCell']) (by unfold maxLen;omega) (by omega) (by simp;omega) ?_;intro v' w2 hown' hgrow _)
      go_ret2
      have hb3:Below w1.heap.size w1 w2:=(hb2.alloc hsr _).grown hgrow (by simp;omega) (fun k e=>(hown.lt k e).1);refine⟨v',rfl,?_,((qG _ hb1).trans (hb3.mono (Nat.le_of_lt hs1)))⟩;have hall:YP t.fn t.pn (lvs total t.ln)=pre++[1]:=by rw[HRO.out,HS.out]
      rw[hall];have:=ownsRow_le hown' (Nat.le_of_lt hs1)
      simpa [qaw] using this
    have e1:((t.fn:Int)==0)=false:=by rw[beq_eq_false_iff_ne];omega
    by_cases hrp:r=t.pn - 1
    · have e2:((r:Int)==(t.pn:Int) - 1)=true:=by rw[beq_iff_eq];omega
      have HS:=hid (ZI (m:=m) hfu1 (.inr hrp:t.fn=0∨r=t.pn - 1));clear hrp hf0;go_wp2_with (at_builtin;refine wpList_append_own _ rfl _ _ 123 rfl w1.heap.size 54 i0 (.int .u64 0) 1 8 Tryz.underlying123 hi hz0 hz1 hz2 rfl (by decide) _ _ _ rfl (hown.alloc _) ⟨wr.heap.size,0,none⟩ 1 1 [.int .u64 1] rfl rfl (cell_one_new _ _ _) (by simp[Value.oneCell']) (by unfold maxLen;omega) (by omega) (by simp;omega) ?_;intro v' w2 hown' hgrow _)
      go_ret2
      have hb3:Below w1.heap.size w1 w2:=(hb2.alloc hsr _).grown hgrow (by simp;omega) (fun k e=>(hown.lt k e).1);refine⟨v',rfl,?_,((qG _ hb1).trans (hb3.mono (Nat.le_of_lt hs1)))⟩;have hall:YP t.fn t.pn (lvs total t.ln)=pre++[1]:=by rw[HRO.out,HS.out]
      rw[hall];have:=ownsRow_le hown' (Nat.le_of_lt hs1)
      simpa [qaw] using this
    have e2:((r:Int)==(t.pn:Int) - 1)=false:=by rw[beq_eq_false_iff_ne];omega
    have hns: ¬(t.fn=0∨r=t.pn - 1):=fun h=>h.elim hf0 hrp
    have hcd:=Yf (n:=m) (show 1≤t.fn by omega);by_cases h1:Qc m t.fn=1
    · have e3:((Qc m t.fn:Int)==1)=true:=by rw[beq_iff_eq];omega
      have HS:=hid (qba hfu1 hns h1);have H1:=hid h1;have hf1:1≤t.fn:=by omega
      clear hrp hf0 hns h1;go_wp2_with (first|(at_builtin;refine wpList_append_own _ rfl _ _ 123 rfl w1.heap.size 54 i0 (.int .u64 0) 1 8 Tryz.underlying123 hi hz0 hz1 hz2 rfl (by decide) _ _ _ rfl (hown.alloc _) ⟨wr.heap.size,0,none⟩ 1 1 [.int .u64 (Qc m t.fn:Nat)] rfl rfl (cell_one_new _ _ _) (by simp[Value.oneCell']) (by unfold maxLen;omega) (by omega) (by simp;omega) ?_;intro v' w2 hown' hgrow _)|(go_at_call 78;refine(ZT m t.fn hm hf1 (by omega) _).mono ?_;rintro e w2 ⟨rfl,rfl⟩))
      go_ret2
      have hb3:Below w1.heap.size w1 w2:=(hb2.alloc hsr _).grown hgrow (by simp;omega) (fun k e=>(hown.lt k e).1);refine⟨v',rfl,?_,((qG _ hb1).trans (hb3.mono (Nat.le_of_lt hs1)))⟩;have hall:YP t.fn t.pn (lvs total t.ln)=pre++[Qc m t.fn]:=by rw[HRO.out,HS.out,H1.out]
      rw[hall];have:=ownsRow_le hown' (Nat.le_of_lt hs1)
      simpa [qaw] using this
    · have e3:((Qc m t.fn:Int)==1)=false:=by rw[beq_eq_false_iff_ne];omega
      obtain⟨fu,rfl⟩: ∃fu,fuel=fu+1:=⟨fuel - 1,by omega⟩;have HS:=hid (qaj (fuel:=fu) hns h1);have hf1:1≤t.fn:=by omega
      have hr3:r+2≤t.pn:=by omega
      clear hrp hf0 hns h1;go_wp2_with (first|(at_builtin;refine wpList_append_own _ rfl _ _ 123 rfl w1.heap.size 54 i0 (.int .u64 0) 1 8 Tryz.underlying123 hi hz0 hz1 hz2 rfl (by decide) _ _ _ rfl (hown.alloc _) ⟨wr.heap.size,0,none⟩ 1 1 [.int .u64 (Qc m t.fn:Nat)] rfl rfl (cell_one_new _ _ _) (by simp[Value.oneCell']) (by unfold maxLen;omega) (by omega) (by simp;omega) ?_;intro v' w2 hown' hgrow _)|(go_at_call 78;refine(ZT m t.fn hm hf1 (by omega) _).mono ?_;rintro e w2 ⟨rfl,rfl⟩))
      go_roundw
      case rel=>
        have hb3:Below w1.heap.size w1 w2:=(hb2.alloc hsr _).grown hgrow (by simp;omega) (fun k e=>(hown.lt k e).1);refine⟨r+1,Qc m t.fn,fu,pre++[Qc m t.fn],rfl,by simp,by omega,by omega,by omega,by omega,by simp[HPL.out],?_,?_,hb3⟩
        · rw[HRO.out,HS.out];simp
        · simpa [qaw] using hown'
      case measure=>simp[intOf];omega
end Go.Proofs.YtdndeffmlhaipaaGreatDoor
