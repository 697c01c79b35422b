/- The walks of the reference's Valid; Valid on both sides, of every tree. No condition. -/
import Derived.Test.YtdndeffmlhaipaaGreatDoorQ00
import Derived.Test.YtdndeffmlhaipaaGreatDoorM03
import Derived.OpenShut
import Derived.Deep.Fields
import Derived.Lib.SmallJoins
import Derived.Maps.AppendAt
set_option linter.all false
set_option maxRecDepth 100000
set_option maxHeartbeats 8000000
namespace Go.Proofs.YtdndeffmlhaipaaGreatDoor
open Go.ChangeShapes Go.WideShapes Go.ChangeAt Go.RowKit
open Go.Lib (hid)
theorem QC (t:TreeV)(w:World):Calls Tryz.prog 22 #[t.val] w fun e w'=>e= .returned (.int .i64 t.validE)∧Below w.heap.size w w':=by
  by_cases h1:t.k=1
  · exact qeH t h1 w
  by_cases h2:t.k=2
  · exact qeG t h2 w
  have e:t.validE=1:=by simp[TreeV.validE,h1,h2]
  rw[e];exact qdK t h1 h2 w
end Go.Proofs.YtdndeffmlhaipaaGreatDoor
namespace Go.Proofs.YtdndeffmlhaipaaGreatDoor
open Go.ChangeShapes Go.WideShapes Go.ChangeAt Go.RowKit Go.Joins Go.Deep
open Go.Lib (hid)
section
variable {H:Type} {enc:TypeId×Value→H} {P:Program} {w:World} {base:Nat} {spare:Nat→Bool} {held:Bool}
end
theorem qe8 {α:Type}{l:List α}(h:l.length=9): ∃a b c d e f g i j,l=[a,b,c,d,e,f,g,i,j]:=by
  match l,h with
  | [a,b,c,d,e,f,g,i,j],_=>exact⟨a,b,c,d,e,f,g,i,j,rfl⟩
theorem qcs:Tryz.prog.cellsOf 22=1:=by kernel_rfl
theorem zS:Tryz.prog.cellsOf 3=1:=by kernel_rfl
theorem qdz:Tryz.prog.cellsOf 23=1:=by kernel_rfl
theorem zv:Tryz.prog.cellsOf 24=1:=by kernel_rfl
theorem qeo:Tryz.prog.cellsOf 5=1:=by kernel_rfl
theorem qcq:Tryz.prog.cellsOf 26=9:=by kernel_rfl
theorem qa9 {H:Type}{enc:TypeId×Value→H}{w:World}{base b0:Nat}{r:Reach}{spare:Nat→Bool}{held:Bool}{v:Value}{d:DataW H}{ps:List MemPlace}
    (hv:Value.okWide Tryz.prog w r b0 3 v) (h:DataW.Trod enc Tryz.prog w base spare held 3 v d ps):
    ∃n,v= .int .i64 n∧ -9223372036854775808≤n∧n≤9223372036854775807:=by
  obtain⟨x,rfl,rfl,rfl,wx⟩:=open_int Tryz.underlying3 hv h;exact⟨x,rfl,bounds_i64 wx⟩
end Go.Proofs.YtdndeffmlhaipaaGreatDoor
namespace Go.Proofs.YtdndeffmlhaipaaGreatDoor
open Go.ChangeShapes Go.WideShapes Go.ChangeAt Go.RowKit
open Go.Lib (hid)
def nth (l:List Nat)(k:Nat):Nat:=l.getD k 0
theorem yv (a:Nat)(l:List Nat)(k:Nat):nth (a::l) (k+1)=nth l k:=rfl
def qL (n d:Nat):Nat:=if n%d=0 then n/d else n/d+1
theorem Yn {n d:Nat}(hd:1≤d):qL n d≤n:=by
  unfold qL;split
  · exact Nat.div_le_self _ _
  · rename_i h
    have h2:2≤d:=by
      rcases Nat.lt_or_ge d 2 with h'|h'
      · have:d=1:=by omega
        subst this;simp[Nat.mod_one]at h
      · exact h'
    have hn:0<n:=by
      rcases Nat.eq_zero_or_pos n with h'|h'
      · subst h';simp at h
      · exact h'
    have h3:=Nat.div_lt_self hn h2;exact h3
theorem ZT {n d:Nat}(hn:1≤n):1≤qL n d:=by
  unfold qL;split
  · rename_i h
    have:=Nat.div_add_mod n d
    rw[h]at this;rcases Nat.eq_zero_or_pos (n/d)with h'|h'
    · rw[h']at this;simp at this;omega
    · exact h'
  · exact Nat.le_add_left _ _
def lvs (total l:Nat):Nat:=max 1 (qL total l)
def qB (f p:Nat):Nat→Nat→Nat→List Nat
  | 0,_,_=>[]
  | fuel+1,row,n=>(if f=0∨row=p - 1 then 1 else qL n f)::(if(if f=0∨row=p - 1 then 1 else qL n f)=1 then [] else qB f p fuel (row+1) (if f=0∨row=p - 1 then 1 else qL n f))
def qT (f p n:Nat):List Nat:=n::qB f p p 1 n
def qr:Nat→List Nat→List (Nat×Nat)
  | _,[]=>[]
  | r,n::l=>(r,n)::qr (r+1) l
theorem Qt: ∀(r:Nat) (l:List Nat),(qr r l).length=l.length
  | _,[]=>rfl
  | r,n::l=>by simp[qr,Qt (r+1) l]
theorem YV (f p:Nat): ∀(fuel row n:Nat),(qB f p fuel row n).length≤fuel
  | 0,_,_=>by simp[qB]
  | fuel+1,row,n=>by
    simp only[qB,List.length_cons];generalize (if f=0∨row=p - 1 then 1 else qL n f)=m;have:=YV f p fuel (row+1) m
    by_cases h:m=1
    · simp[h]
    · simp only[h,if_false];omega
def TreeV.ln (t:TreeV):Nat:=t.l.toNat
def TreeV.fn (t:TreeV):Nat:=t.f.toNat
def TreeV.pn (t:TreeV):Nat:=t.p.toNat
def TreeV.err (t:TreeV)(total:Nat):Int:=if t.validE≠0 then t.validE else if t.k=2∧281474976710656<qL total t.ln then 2 else 0
theorem qd {t:TreeV}(h:t.validE=0):(t.k=1∨t.k=2)∧1≤t.d∧t.d≤YU t.k∧1≤t.i∧t.i≤YU t.k∧(t.f=0∨2≤t.f∧t.f≤255)∧2≤t.p∧t.p≤255∧t.l≠0∧
    (t.kl:Int)≤YU t.k∧((t.sl:Int)=0∨(t.sl:Int)=jp t.k)∧((t.pl:Int)=0∨(t.pl:Int)=jp t.k):=by
  unfold TreeV.validE at h;split at h
  · cases h
  · split at h
    · cases h
    · split at h
      · cases h
      · split at h
        · cases h
        · split at h
          · cases h
          · refine⟨by omega,by omega,by omega,by omega,by omega,by omega,by omega,by omega,by omega,by omega,?_,?_⟩<;>omega
theorem Qz {t:TreeV}{total:Nat}(h:t.err total=0):t.validE=0:=by
  unfold TreeV.err at h;split at h
  · omega
  · omega
theorem qbv (n d:Nat)(hn:(n:Int)≤18446744073709551615)(hd:1≤d)(hd2:(d:Int)≤18446744073709551615)(w:World):
    Calls Tryz.prog 133 #[.int .u64 n,.int .u64 d] w fun e w'=>e= .returned (.int .u64 (qL n d))∧w=w':=by
  have hdn:=Yn (n:=n) hd;have hd1:(1:Int)≤d:=by omega
  have hd0:((d:Int)==0)=false:=by rw[beq_eq_false_iff_ne];omega
  have hq:((n/d:Nat):Int)=(n:Int)/(d:Int):=Int.natCast_ediv n d;have hm:((n%d:Nat):Int)=(n:Int)%(d:Int):=Int.natCast_emod n d;have hq2:=Nat.div_le_self n d;by_cases h:n%d=0
  · have e1:((n:Int)%(d:Int) != 0)=false:=by
      rw[bne_eq_false_iff_eq,←hm,h];rfl
    have e2:(qL n d:Int)=(n:Int)/(d:Int):=by simp[qL,h]
    have e3:(n:Int)/(d:Int)≤18446744073709551615:=by rw[←hq];omega
    have e4:0≤(n:Int)/(d:Int):=by rw[←hq];exact Int.natCast_nonneg _
    have E2:=hid e2;clear e2 hq hm;go_enter Tryz.func133,Tryz.ntmps133
    go_wp2
    go_ret
    exact⟨by rw[E2.out];rfl,rfl⟩
  · have e1:((n:Int)%(d:Int) != 0)=true:=by
      rw[bne_iff_ne,←hm];intro h';exact h (by exact_mod_cast h')
    have e2:(qL n d:Int)=(n:Int)/(d:Int)+1:=by simp[qL,h]
    have e3:(n:Int)/(d:Int)+1≤18446744073709551615:=by rw[←hq];(have e5:qL n d=n/d+1:=by simp[qL,h]);omega
    have e4:0≤(n:Int)/(d:Int):=by rw[←hq];exact Int.natCast_nonneg _
    have E2:=hid e2;clear e2 hq hm;go_enter Tryz.func133,Tryz.ntmps133
    go_wp2
    go_ret
    exact⟨by rw[E2.out];rfl,rfl⟩
theorem qev {W w1:World}(hb:Below W.heap.size W w1):(∀b o,b<W.heap.size→w1.cell? ⟨b,o,none⟩=W.cell? ⟨b,o,none⟩)∧(∀b o,b<W.heap.size→w1.frozen? ⟨b,o,none⟩=W.frozen? ⟨b,o,none⟩):=
  ⟨fun b o h=>hb.cell (p:=⟨b,o,none⟩) h,fun b o h=>hb.frozen (p:=⟨b,o,none⟩) h⟩
theorem qbT (t:TreeV)(hl:0≤t.l∧t.l≤4294967295)(total:Nat)(ht:(total:Int)≤18446744073709551615)(w:World):
    Calls Tryz.prog 109 #[t.val,.int .u64 total] w fun e w'=>e= .returned (.int .i64 (t.err total))∧Below w.heap.size w w':=by
  by_cases h0:t.validE=0
  · have hv:=qd h0
    have H0:=hid h0;obtain⟨-, -, -, -, -, -, -, -,hl0, -, -, -⟩:=hv;have hl1:1≤t.ln:=by unfold TreeV.ln;omega
    have hl2:(t.ln:Int)≤18446744073709551615:=by unfold TreeV.ln;omega
    have HL:=hid (show t.l=(t.ln:Int) by unfold TreeV.ln;omega);by_cases hk:t.k=2
    · have ek:(t.k==2)=true:=by simpa using hk
      have HE:Hid (t.err total=if 281474976710656<qL total t.ln then 2 else 0):=by show _=_;simp[TreeV.err,h0,hk]
      clear hk hl0 h0;unfold TreeV.val;go_enter Tryz.func109,Tryz.ntmps109
      go_wp2_with fail
      refine(QC t _).mono ?_;rintro e w1 ⟨rfl,hb1⟩;obtain⟨hc, -⟩:=qev hb1;rw[H0.out];go_wp2_with (go_at_call 133;rw[HL.out];refine(qbv total t.ln ht hl1 hl2 _).mono ?_;rintro e w2 ⟨rfl,rfl⟩)
      all_goals go_ret
      all_goals refine⟨ZC (by rw[HE.out];first|rw[if_pos (by omega)]|rw[if_neg (by omega)]),?_⟩
      all_goals exact(Below.alloc Br Nl _).trans (hb1.mono (by simp))
    · have ek:(t.k==2)=false:=by simpa using hk
      have HE:Hid (t.err total=0):=by show _=_;simp[TreeV.err,h0,hk]
      clear hk hl0 h0;unfold TreeV.val;go_enter Tryz.func109,Tryz.ntmps109
      go_wp2_with fail
      refine(QC t _).mono ?_;rintro e w1 ⟨rfl,hb1⟩;obtain⟨hc, -⟩:=qev hb1;rw[H0.out];go_wp2
      go_ret
      exact⟨ZC (by rw[HE.out]),(Below.alloc Br Nl _).trans (hb1.mono (by simp))⟩
  · have e1:(t.validE != 0)=true:=by rw[bne_iff_ne];exact h0
    have HE:Hid (t.err total=t.validE):=by show _=_;simp[TreeV.err,h0]
    clear h0;unfold TreeV.val;go_enter Tryz.func109,Tryz.ntmps109
    go_wp2_with fail
    refine(QC t _).mono ?_;rintro e w1 ⟨rfl,hb1⟩;go_wp2
    go_ret
    exact⟨ZC (by rw[HE.out]),(Below.alloc Br Nl _).trans (hb1.mono (by simp))⟩
theorem jh {w w1:World}(o:Obj)(hb:Below (w.alloc o).heap.size (w.alloc o) w1):Below w.heap.size w w1:=
  (Below.alloc Br Nl o).trans (hb.mono (by simp))
theorem JD {t:TreeV}{total:Nat}(hl:0≤t.l∧t.l≤4294967295)(h:t.err total=0):1≤t.ln∧(t.ln:Int)≤4294967295∧t.l=(t.ln:Int)∧t.validE=0:=by
  have h0:=Qz h;have hv:=qd h0;unfold TreeV.ln;omega
theorem qfk (total l:Nat)(hl:1≤l)(ht:(total:Int)≤18446744073709551615):(lvs total l:Int)≤18446744073709551615:=by
  have:=Yn (n:=total) hl
  unfold lvs;omega
end Go.Proofs.YtdndeffmlhaipaaGreatDoor
namespace Go.Proofs.YtdndeffmlhaipaaGreatDoor
open Go.ChangeShapes Go.WideShapes Go.ChangeAt Go.RowKit Go.Joins Go.Maps
open Go.Lib (hid)
def jF (n:Nat):Value:= .int .u64 n
theorem qeg:(Tryz.prog.info? 54).map (fun i=>(i.zero,i.size,i.bytes))=some (some (.int .u64 0),1,8):=by kernel_rfl
theorem zY {f p r m fuel:Nat}(hf:1≤fuel)(h:f=0∨r=p - 1):qB f p fuel r m=[1]:=by
  obtain⟨k,rfl⟩: ∃k,fuel=k+1:=⟨fuel - 1,by omega⟩;simp[qB,h]
theorem qaz {f p r m fuel:Nat}(hf:1≤fuel)(h: ¬(f=0∨r=p - 1))(h1:qL m f=1):qB f p fuel r m=[1]:=by
  obtain⟨k,rfl⟩: ∃k,fuel=k+1:=⟨fuel - 1,by omega⟩;simp only[qB,h,if_false,h1];simp
theorem JO {f p r m fuel:Nat}(h: ¬(f=0∨r=p - 1))(h1:qL m f≠1):qB f p (fuel+1) r m=qL m f::qB f p fuel (r+1) (qL m f):=by
  simp only[qB,h,if_false,h1]
end Go.Proofs.YtdndeffmlhaipaaGreatDoor
