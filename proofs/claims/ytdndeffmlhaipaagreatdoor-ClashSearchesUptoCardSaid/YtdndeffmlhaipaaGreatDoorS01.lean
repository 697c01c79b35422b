/- The frame of every law of this seat: a law that returns true and turns nothing that was there is proved as its row says. No condition. -/
import Derived.ProofKit
import Derived.WalkKit
import Derived.Below
import Derived.Carry
import Derived.SizedLaws
import Derived.Deep.CondSized
import Derived.Lib.SmallJoins
import Derived.Lib.ItoaNum
import Derived.Lib.ItoaLen
set_option linter.all false
set_option maxRecDepth 100000
set_option maxHeartbeats 8000000
namespace Go.Proofs.YtdndeffmlhaipaaGreatDoor
open Go.ChangeShapes Go.WideShapes Go.ChangeAt Go.RowKit
theorem ZG {H:Type}{enc:TypeId×Value→H}{P:Program}(hl:laidOutB P=true){W W':World}(hb:Below W.heap.size W W'):
  ∀(ts:List TypeId) (vs:List Value) (ds:List (DataW H)) (ps:List MemPlace),(∀t∈ts,P.readableRec t=true∧t<P.types.size)→
   DataW.TrodAll enc P W 0 (fun _=>true) true ts vs ds ps→(∀x∈ps,x.block<W.heap.size)→
   DataW.TrodAll enc P W' 0 (fun b=>decide (b<W.heap.size)) true ts vs ds ps
 | [],vs,ds,ps,_,h,_=>by
  obtain⟨rfl,rfl,rfl⟩:=trodAll_nil h;exact rfl
 | t::ts,vs,ds,ps,hr,h,hlt=>by
  obtain⟨v,vs',d,ds',p,q,rfl,rfl,rfl,h1,h2⟩:=trodAll_cons h;obtain⟨r1,r2⟩:=hr t (by simp);refine⟨p,q,Below.trod hl r1 r2 h1 hb (fun x hx=>hlt x (by simp[hx])),?_,rfl⟩;exact ZG hl hb ts vs' ds' q (fun t' ht'=>hr t' (by simp[ht'])) h2 (fun x hx=>hlt x (by simp[hx]))
def qgg (W:World)(e:Ending)(W':World):Prop:=e= .returned (.bool true)∧Below W.heap.size W W'
theorem qat {H:Type}{enc:TypeId×Value→H}{P:Program}{f:Func}{s:ChangeSpec}(hl:laidOutB P=true)(tb:TypeId)(hres:f.resultTypes= #[tb])(hub:P.underlying tb=some .bool)
  (hread: ∀t∈f.params.toList,P.readableRec t=true∧t<P.types.size) (hv:s.vars=[]) {W W':World} {args:Array Value} {ds gs:List (DataW H)} {before:List MemPlace}
  (hW:DataW.Whole enc P f.params.toList s.vars false W args.toList ds gs before) (hs:s.fn H (ds++gs)= { results:=[.lit (.bool true)],args:=ds })
  (hb:Below W.heap.size W W'):s.post enc P f false true false false W args (.bool true) W':=by
 have hW':=hW;obtain⟨p,q,hA,hV,hpq,hfz,hnd⟩:=hW;rw[hv]at hV;obtain⟨rfl,rfl⟩:=trodVars_none hV;have hlt: ∀x∈p,x.block<W.heap.size:=fun x hx=>hW'.lt x (by rw[hpq];simpa using hx)
 refine⟨ds,[],before,[],p,[],hW',?_,?_,?_,?_,fun h=>by cases h⟩
 ·rw[hs,hres];exact trodAll_mk1 (shut_bool hub _)
 ·rw[hs];exact ZG hl hb _ _ _ _ hread hA hlt
 ·rw[hs,hv];exact rfl
 ·exact hb.frame _
end Go.Proofs.YtdndeffmlhaipaaGreatDoor
namespace Go.Proofs.YtdndeffmlhaipaaGreatDoor
open Go
def yC (l:List UInt8):List Int:=l.map fun b=>(b.toNat:Int)
def Yl (i:Int):List Int:=yC (Lib.itoa i)
def zC (n:Nat):List Int:=yC (Lib.decDigits n)
theorem J8: ∀{a b:List UInt8},yC a=yC b→a=b
 | [],[],_=>rfl
 | [],_::_,h=>by simp[yC]at h
 | _::_,[],h=>by simp[yC]at h
 | x::a,y::b,h=>by
  simp only[yC,List.map_cons,List.cons.injEq]at h;have h1:x=y:=by
   have:x.toNat=y.toNat:=by omega
   exact UInt8.toNat_inj.1 this
  rw[h1,J8 (a:=a) (b:=b) h.2]
theorem qfw (a b:List UInt8):yC (a++b)=yC a++yC b:=List.map_append
theorem jO (l:List UInt8): ∀z∈yC l,0≤z∧z≤255:=fun z hz=>by
 obtain⟨b, -,rfl⟩:=List.mem_map.1 hz;have:=b.toNat_lt
 omega
theorem zl {n:Nat}(h:n<10):zC n=[((48+n:Nat):Int)]:=by
 unfold zC;rw[Lib.decDigits,dif_pos h];simp only[yC,List.map_cons,List.map_nil,List.cons.injEq,and_true];rw[UInt8.toNat_ofNat'];omega
theorem J2 {n:Nat}(h: ¬n<10):zC n=zC (n/10)++[((48+n%10:Nat):Int)]:=by
 unfold zC;rw[Lib.decDigits,dif_neg h,qfw];congr 1
 simp only[yC,List.map_cons,List.map_nil,List.cons.injEq,and_true];rw[UInt8.toNat_ofNat'];omega
theorem qfs (n:Nat):1≤(zC n).length:=by
 by_cases h:n<10
 ·rw[zl h];exact Nat.le_refl _
 ·rw[J2 h];simp
theorem qb8 (n:Nat):Yl (n:Int)=zC n:=by
 unfold Yl Lib.itoa zC;rw[if_neg (by omega)];rfl
theorem qb7 {i:Int}(h:i<0):Yl i=45::zC i.natAbs:=by
 unfold Yl Lib.itoa zC;rw[if_pos h];rfl
theorem jf {i:Int}(h0: -9223372036854775808≤i)(h1:i≤9223372036854775807):(Yl i).length≤21∧1≤(Yl i).length:=by
 refine⟨by unfold Yl yC;rw[List.length_map];exact Lib.itoa_length_le i h0 h1,?_⟩;by_cases h:i<0
 ·rw[qb7 h];simp
 ·obtain⟨n,rfl⟩: ∃n:Nat,i=n:=⟨i.toNat,by omega⟩;rw[qb8];exact qfs n
def NoDup (D:Nat→List Int)(n:Nat):Prop:= ∀i j,i<j→j<n→D i≠D j
theorem NoDup.succ {D:Nat→List Int}{n:Nat}(h:NoDup D n)(hk: ∀k,k<n→D k≠D n):NoDup D (n+1):=fun i j hij hj=>by
 by_cases e:j=n
 ·rw[e];exact hk i (by omega)
 ·exact h i j hij (by omega)
theorem NoDup.one {D:Nat→List Int}{i k i' k':Nat}(h:NoDup D i)(hk:k<i)(e:D k=D i)(h':NoDup D i')(hk':k'<i')(e':D k'=D i'):i=i'∧k=k':=by
 have h1:i=i':=by
  rcases Nat.lt_trichotomy i i' with hl|hl|hl
  ·exact absurd e (h' k i hk hl)
  ·exact hl
  ·exact absurd e' (h k' i' hk' hl)
 subst h1;refine⟨rfl,?_⟩;rcases Nat.lt_trichotomy k k' with hl|hl|hl
 ·exact absurd (e.trans e'.symm) (h k k' hl hk')
 ·exact hl
 ·exact absurd (e'.trans e.symm) (h k' k hl hk)
theorem NoDup.none {D:Nat→List Int}{i k n:Nat}(hn:NoDup D n)(hk:k<i)(hi:i<n)(e:D k=D i):False:=hn k i hk hi e
end Go.Proofs.YtdndeffmlhaipaaGreatDoor
